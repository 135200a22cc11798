/- Walks and plain laws of the packets and frames, joined from: WEx2, WPl, WLaw, WPl2, WPl3, Lw, LwPk. -/
import Derived.Test.YtbgfoobcpacfeaaDoorPk7
import Derived.Lib.SlBytesConst
/- The statements' example: the walk. -/
namespace Go.Proofs.YtbgfoobcpacfeaaDoor
open Go.RowKit
set_option maxRecDepth 100000
set_option linter.unusedVariables false
set_option linter.unusedSimpArgs false

theorem bs_10 {ρ : Operand → Value} {o : Oper} (ho : o.op = .buildSlice 32 9 #[(0, .const (.int .u8 10)), (1, .const (.int .u8 0)), (2, .const (.int .u8 0)), (3, .const (.int .u8 0)), (4, .const (.int .u8 7)), (5, .const (.int .u8 0)), (6, .const (.int .u8 0)), (7, .const (.int .u8 1)), (8, .const (.int .u8 44))]) (hρ : ∀ v, ρ (.const v) = v) (w : World) :
    (execOp ρ o).run Tryd.prog w = .ok (.value (.slice (some ⟨w.heap.size, 0, none⟩) 9 9)) (w.alloc (.cells c10 5)) := by
  have h1 : (Instr.buildSlice 32 9 #[(0, .int .u8 10), (1, .int .u8 0), (2, .int .u8 0), (3, .int .u8 0), (4, .int .u8 7), (5, .int .u8 0), (6, .int .u8 0), (7, .int .u8 1), (8, .int .u8 44)]).run Tryd.prog w = .ok (.slice (some ⟨w.heap.size, 0, none⟩) 9 9) (w.alloc (.cells c10 5)) := by kernel_rfl
  unfold execOp
  rw [ho]
  simp [hρ, h1]

theorem RB.marked (w : World) (l : List UInt8) (fz : Nat × Nat) (hl : l.length ≤ 140737488355328) : RB (w.alloc (.cells (l.map bv).toArray 5 fz)) (.slice (some ⟨w.heap.size, 0, none⟩) l.length l.length) l := by
  refine ⟨_, l.length, rfl, Nat.le_refl _, by simp only [maxLen]; omega, hl, fun i b hb => ⟨w.heap.size, 0, rfl, by simp, ?_⟩⟩
  have hi : i < l.length := (List.getElem?_eq_some_iff.1 hb).1
  have h := heap_new w (.cells (l.map bv).toArray 5 fz) w.heap.size rfl
  unfold World.cell?
  rw [h]
  simp [hb]

set_option maxHeartbeats 8000000 in
theorem example_calls {w : World} (hS : Szs w) : Pur Tryd.prog 29 #[] w (.bool true) := by
  unfold Pur
  go_enter Tryd.func29, Tryd.ntmps29
  go_upto_region 1 with fail
  rename_i hnext
  refine wp_region_lit ?_
  refine Og.st_start (n := 82) rfl fun a hF => ?_
  refine Og.st_same (.agg (pkL p10 (.slice none 0 0)).toArray) hF rfl rfl (by decide) (build_10 rfl (fun _ => rfl) w) ?_
  clear hF a; intro a hF
  refine Og.st_val (w' := w.alloc (.cells (pkL (Wi.Pk.zero 0) (.slice none 0 0)).toArray 34)) (.pointer (some ⟨w.heap.size, 0, none⟩)) hF rfl rfl (by decide) (alloc_pk rfl w) ?_
  clear hF a; intro a hF
  have hz1 := heap_new w (.cells (pkL (Wi.Pk.zero 0) (.slice none 0 0)).toArray 34) w.heap.size rfl
  refine Og.st_skip (w' := (w.alloc (.cells (pkL (Wi.Pk.zero 0) (.slice none 0 0)).toArray 34)).setCells w.heap.size 0 (pkL p10 (.slice none 0 0))) hF rfl rfl
    (exec_store (o := 0) (vs := pkL p10 (.slice none 0 0)) (cs := pkL (Wi.Pk.zero 0) (.slice none 0 0)) rfl rfl rfl hz1 (by rw [pkL_length p10_ok, pkL_length (Wi.Pk.zero_ok 0)]; decide) (by rw [pkL_length p10_ok]; exact pk_i) (pkL_one _ _ rfl)) ?_
  clear hF a; intro a hF
  have hP1 := PkAt.store hz1 0 _ p10 (.slice none 0 0) (set_all p10_ok (Wi.Pk.zero_ok 0))
  have hb1 : Below w.heap.size w ((w.alloc (.cells (pkL (Wi.Pk.zero 0) (.slice none 0 0)).toArray 34)).setCells w.heap.size 0 (pkL p10 (.slice none 0 0))) :=
    (below_alloc1 w _).grown (setCells_grown _ w.heap.size 0 _) (by simp) (fun k hk => by injection hk with hk; omega)
  generalize (w.alloc (.cells (pkL (Wi.Pk.zero 0) (.slice none 0 0)).toArray 34)).setCells w.heap.size 0 (pkL p10 (.slice none 0 0)) = w1 at *
  refine wpList_nil ?_
  generalize hA : w.heap.size = A at *
  obtain ⟨U, rfl⟩ := Og.Fr.lit_ex hF (fun U => ⟨#[U 0, .pointer (some ⟨A, 0, none⟩), U 2, U 3, U 4, U 5, U 6, U 7, U 8, U 9, U 10, U 11, U 12, U 13, U 14, U 15, U 16, U 17, U 18, U 19, U 20, U 21, U 22, U 23, U 24, U 25, U 26, U 27, U 28, U 29, U 30, U 31, U 32, U 33, U 34, U 35, U 36, U 37, U 38, U 39, U 40, U 41, U 42, U 43, U 44, U 45, U 46, U 47, U 48, U 49, U 50, U 51, U 52, U 53, U 54, U 55, U 56, U 57, U 58, U 59, U 60, U 61, U 62, U 63, U 64, U 65, U 66, U 67, U 68, U 69, U 70, U 71, U 72, U 73, U 74, U 75, U 76, U 77, U 78, U 79, U 80, U 81], []⟩) (by kernel_rfl)
  clear hF
  refine hnext _ _ ?_
  clear hnext
  have hb2 := below_alloc1 w1 (.cells c10 5)
  have hP2 := hP1.below hb2
  have hr2 : RB (w1.alloc (.cells c10 5)) (.slice (some ⟨w1.heap.size, 0, none⟩) 9 9) b10 := (OB.new (B := w1.heap.size) w1 c10 b10 rfl (by decide) (Nat.le_refl _)).rb
  have hb02 := hb1.trans (hb2.mono (hA ▸ hb1.size))
  go_upto_region 3 with fail
  rename_i hnext
  have hl2 := load_pk hP2 p10_ok
  have hS2 := hS.below (hA ▸ hb02)
  generalize w1.alloc (.cells c10 5) = w2 at *
  generalize hG : w1.heap.size = G at *
  refine wp_region_lit ?_
  refine Og.st_start (n := 82) rfl fun a hF => ?_
  refine Og.st_same (.agg (pkL p10 (.slice none 0 0)).toArray) hF rfl rfl (by decide) (Og.exec_load rfl hl2) ?_
  clear hF a; intro a hF
  refine st_enc (p := p10) (pv := .slice none 0 0) 16 17 15 18 19 3 4 hF p10_ok (RB.nil_ _) hS2 rfl ?_
  clear hF a; intro a w3 v T hF ho3 hb3
  rw [p10_err, p10_out] at *
  have hP3 := hP2.below hb3
  have hr3 := hr2.below hb3
  have hS3 := hS2.below hb3
  have hb03 := hb02.trans (hb3.mono (by rw [← hA]; exact hb02.size))
  obtain ⟨U, rfl⟩ := Og.Fr.lit_ex hF (fun U => ⟨#[U 0, .pointer (some ⟨A, 0, none⟩), .slice (some ⟨G, 0, none⟩) 9 9, v, .int .i64 0, U 5, U 6, U 7, U 8, U 9, U 10, U 11, U 12, U 13, U 14, U 15, U 16, U 17, U 18, U 19, U 20, U 21, U 22, U 23, U 24, U 25, U 26, U 27, U 28, U 29, U 30, U 31, U 32, U 33, U 34, U 35, U 36, U 37, U 38, U 39, U 40, U 41, U 42, U 43, U 44, U 45, U 46, U 47, U 48, U 49, U 50, U 51, U 52, U 53, U 54, U 55, U 56, U 57, U 58, U 59, U 60, U 61, U 62, U 63, U 64, U 65, U 66, U 67, U 68, U 69, U 70, U 71, U 72, U 73, U 74, U 75, U 76, U 77, U 78, U 79, U 80, U 81], []⟩) (by kernel_rfl)
  clear hF
  refine hnext _ _ ?_
  clear hnext
  go_upto_region 4 with fail
  rename_i hnext
  refine wp_region_lit ?_
  refine Og.st_start (n := 82) rfl fun a hF => ?_
  refine Og.st_val (.slice (some ⟨w3.heap.size, 0, none⟩) 9 9) hF rfl rfl (by decide) (bs_10 rfl (fun _ => rfl) w3) ?_
  clear hF a; intro a hF
  have hb4 := below_alloc1 w3 (.cells c10 5)
  have hr4b : RB (w3.alloc (.cells c10 5)) (.slice (some ⟨w3.heap.size, 0, none⟩) 9 9) b10 := (OB.new (B := w3.heap.size) w3 c10 b10 rfl (by decide) (Nat.le_refl _)).rb
  have hP4 := hP3.below hb4
  have hr4 := hr3.below hb4
  have ho4 := ho3.below hb4
  have hS4 := hS3.below hb4
  have hA3 : A ≤ w3.heap.size := by rw [← hA]; exact hb03.size
  have hb04 := hb03.trans (hb4.mono hA3)
  refine st_dec (l := b10) 21 22 20 23 24 25 5 6 7 hF hr4b hS4 rfl ?_ (by rw [b10_un]; exact p10_ok)
  clear hF a; intro a w5 D qv T hF hQ5 hoq hb5 hD hqk
  rw [b10_un] at *
  have hP5 := hP4.below hb5
  have hr5 := hr4.below hb5
  have ho5 := ho4.below hb5
  have hS5 := hS4.below hb5
  have hb05 := hb04.trans (hb5.mono (by rw [← hA]; exact hb04.size))
  obtain ⟨U, rfl⟩ := Og.Fr.lit_ex hF (fun U => ⟨#[U 0, .pointer (some ⟨A, 0, none⟩), .slice (some ⟨G, 0, none⟩) 9 9, v, .int .i64 0, .pointer (some ⟨D, 0, none⟩), .int .i64 0, .int .i64 0, U 8, U 9, U 10, U 11, U 12, U 13, U 14, U 15, U 16, U 17, U 18, U 19, U 20, U 21, U 22, U 23, U 24, U 25, U 26, U 27, U 28, U 29, U 30, U 31, U 32, U 33, U 34, U 35, U 36, U 37, U 38, U 39, U 40, U 41, U 42, U 43, U 44, U 45, U 46, U 47, U 48, U 49, U 50, U 51, U 52, U 53, U 54, U 55, U 56, U 57, U 58, U 59, U 60, U 61, U 62, U 63, U 64, U 65, U 66, U 67, U 68, U 69, U 70, U 71, U 72, U 73, U 74, U 75, U 76, U 77, U 78, U 79, U 80, U 81], []⟩) (by kernel_rfl)
  clear hF
  refine hnext _ _ ?_
  clear hnext
  have hvq : RB w5 qv p10.data := hoq.rb
  have ho := ho5.rb
  have hb := hb05
  have hP := hP5
  have hQ := hQ5
  have hr := hr5
  have hS := hS5
  clear hP1 hP2 hP3 hP4 hr2 hr3 hr4 hr4b ho3 ho4 hS2 hS3 hS4 hb1 hb2 hb3 hb4 hb5 hb02 hb03 hb04 hz1 hP5 hQ5 hr5 ho5 hS5 hb05
  have hAw : A ≤ w5.heap.size := by rw [← hA]; exact hb.size
  go_upto_region 5 with fail
  rename_i hnext
  refine wp_region_lit ?_
  refine Og.st_start (n := 82) rfl fun a hF => ?_
  refine Og.st_same (.int .i64 0) hF rfl rfl (by decide) (by kernel_rfl) ?_
  clear hF a; intro a hF
  refine Og.st_call (f := 17) (args := #[.int .i64 0]) hF rfl rfl (by decide) ((Og.exec_call rfl num_enter rfl _).trans (by kernel_rfl)) ((num_calls _ 0).out.mono ?_)
  rintro e w6 ⟨rfl, hb6⟩
  have hP := hP.below hb6
  have hQ := hQ.below hb6
  have hr := hr.below hb6
  have hS := hS.below hb6
  have ho := ho.below hb6
  have hvq := hvq.below hb6
  have hb := hb.trans (hb6.mono hAw)
  have hAw := Nat.le_trans hAw hb6.size
  refine ⟨_, rfl, ?_⟩
  clear hF a; intro a hF
  refine Og.st_same (.bool false) hF rfl rfl (by decide) (by kernel_rfl) ?_
  clear hF a; intro a hF
  refine Og.st_same (.bool false) hF rfl rfl (by decide) (by kernel_rfl) ?_
  clear hF a; intro a hF
  refine Og.st_same_g v hF (by kernel_rfl) rfl (by decide) (by kernel_rfl) ?_
  clear hF a; intro a hF
  refine Og.st_same_g (.slice (some ⟨G, 0, none⟩) 9 9) hF (by kernel_rfl) rfl (by decide) (by kernel_rfl) ?_
  clear hF a; intro a hF
  refine Og.st_call_g (f := 22) (args := #[v, .slice (some ⟨G, 0, none⟩) 9 9]) hF (by kernel_rfl) rfl (by decide) ((Og.exec_call rfl same_enter rfl _).trans (by kernel_rfl)) ((same_calls ho hr).out.mono ?_)
  rintro e w7 ⟨rfl, hb7⟩
  have hP := hP.below hb7
  have hQ := hQ.below hb7
  have hr := hr.below hb7
  have hS := hS.below hb7
  have ho := ho.below hb7
  have hvq := hvq.below hb7
  have hb := hb.trans (hb7.mono hAw)
  have hAw := Nat.le_trans hAw hb7.size
  refine ⟨_, rfl, ?_⟩
  clear hF a; intro a hF
  refine Og.st_same_g (.bool false) hF (by kernel_rfl) rfl (by decide) (by kernel_rfl) ?_
  clear hF a; intro a hF
  refine Og.st_same (.bool false) hF rfl rfl (by decide) (by kernel_rfl) ?_
  clear hF a; intro a hF
  refine Og.st_same (.bool false) hF rfl rfl (by decide) (by kernel_rfl) ?_
  clear hF a; intro a hF
  refine Og.st_same_g (.int .i64 0) hF (by kernel_rfl) rfl (by decide) (by kernel_rfl) ?_
  clear hF a; intro a hF
  refine Og.st_call_g (f := 17) (args := #[.int .i64 0]) hF (by kernel_rfl) rfl (by decide) ((Og.exec_call rfl num_enter rfl _).trans (by kernel_rfl)) ((num_calls _ 0).out.mono ?_)
  rintro e w8 ⟨rfl, hb8⟩
  have hP := hP.below hb8
  have hQ := hQ.below hb8
  have hr := hr.below hb8
  have hS := hS.below hb8
  have ho := ho.below hb8
  have hvq := hvq.below hb8
  have hb := hb.trans (hb8.mono hAw)
  have hAw := Nat.le_trans hAw hb8.size
  refine ⟨_, rfl, ?_⟩
  clear hF a; intro a hF
  refine Og.st_same_g (.bool false) hF (by kernel_rfl) rfl (by decide) (by kernel_rfl) ?_
  clear hF a; intro a hF
  refine Og.st_same (.bool false) hF rfl rfl (by decide) (by kernel_rfl) ?_
  clear hF a; intro a hF
  refine Og.st_same (.bool false) hF rfl rfl (by decide) (by kernel_rfl) ?_
  clear hF a; intro a hF
  refine Og.st_same_g (.int .i64 0) hF (by kernel_rfl) rfl (by decide) (by kernel_rfl) ?_
  clear hF a; intro a hF
  refine Og.st_same_g (.bool false) hF (by kernel_rfl) rfl (by decide) (by kernel_rfl) ?_
  clear hF a; intro a hF
  refine Og.st_same (.bool false) hF rfl rfl (by decide) (by kernel_rfl) ?_
  clear hF a; intro a hF
  refine Og.st_same (.bool false) hF rfl rfl (by decide) (by kernel_rfl) ?_
  clear hF a; intro a hF
  refine Og.st_same_g (.agg (pkL p10 (.slice none 0 0)).toArray) hF (by kernel_rfl) rfl (by decide) (Og.exec_load rfl (load_pk hP p10_ok)) ?_
  clear hF a; intro a hF
  refine Og.st_same_g (.agg (pkL p10 qv).toArray) hF (by kernel_rfl) rfl (by decide) (Og.exec_load rfl (load_pk hQ p10_ok)) ?_
  clear hF a; intro a hF
  refine Og.st_call_g (f := 23) (args := #[.agg (pkL p10 (.slice none 0 0)).toArray, .agg (pkL p10 qv).toArray]) hF (by kernel_rfl) rfl (by decide) ((Og.exec_call rfl samePk_enter rfl _).trans (by kernel_rfl)) ((samePk_calls p10_ok (RB.nil_ _) hvq).out.mono ?_)
  rintro e w9 ⟨rfl, hb9⟩
  have hP := hP.below hb9
  have hQ := hQ.below hb9
  have hr := hr.below hb9
  have hS := hS.below hb9
  have ho := ho.below hb9
  have hvq := hvq.below hb9
  have hb := hb.trans (hb9.mono hAw)
  have hAw := Nat.le_trans hAw hb9.size
  refine ⟨_, rfl, ?_⟩
  clear hF a; intro a hF
  refine Og.st_same_g (.bool false) hF (by kernel_rfl) rfl (by decide) (by kernel_rfl) ?_
  clear hF a; intro a hF
  refine Og.st_same (.bool false) hF rfl rfl (by decide) (by kernel_rfl) ?_
  clear hF a; intro a hF
  refine wpList_nil ?_
  obtain ⟨U, rfl⟩ := Og.Fr.lit_ex hF (fun U => ⟨#[U 0, U 1, U 2, U 3, U 4, U 5, U 6, U 7, U 8, U 9, U 10, U 11, U 12, U 13, U 14, U 15, U 16, U 17, U 18, U 19, U 20, U 21, U 22, U 23, U 24, U 25, U 26, U 27, U 28, U 29, U 30, U 31, U 32, U 33, U 34, U 35, U 36, U 37, U 38, U 39, U 40, U 41, U 42, U 43, U 44, U 45, U 46, U 47, U 48, .bool false, U 50, U 51, U 52, U 53, U 54, U 55, U 56, U 57, U 58, U 59, U 60, U 61, U 62, U 63, U 64, U 65, U 66, U 67, U 68, U 69, U 70, U 71, U 72, U 73, U 74, U 75, U 76, U 77, U 78, U 79, U 80, U 81], []⟩) (by kernel_rfl)
  clear hF
  refine hnext _ _ ?_
  clear hnext hP hQ hr ho hvq
  have hcv := fun (w : World) (C : Array Value) (n c : Nat) => Lib.run_convert_bytes_const (P := Tryd.prog) w 32 5 C n c by_tu sm_u8
  have hx3 : RB (w9.alloc (.cells #[.int .u8 97, .int .u8 98, .int .u8 99] 5 (3, 4))) (.slice (some ⟨w9.heap.size, 0, none⟩) 3 3) x3.pay := RB.marked w9 [97, 98, 99] (3, 4) (by decide)
  have hk8 := heap_new (w9.alloc (.cells #[.int .u8 97, .int .u8 98, .int .u8 99] 5 (3, 4))) (.cells (frameC x3 (.slice (some ⟨w9.heap.size, 0, none⟩) 3 3)) 50) (w9.heap.size + 1) (by simp)
  have hx4 := hx3.below (below_alloc1 _ (.cells (frameC x3 (.slice (some ⟨w9.heap.size, 0, none⟩) 3 3)) 50))
  have hb10 : Below w9.heap.size w9 ((w9.alloc (.cells #[.int .u8 97, .int .u8 98, .int .u8 99] 5 (3, 4))).alloc (.cells (frameC x3 (.slice (some ⟨w9.heap.size, 0, none⟩) 3 3)) 50)) := (below_alloc1 _ _).trans ((below_alloc1 _ _).mono (by simp))
  have hb010 := hb.trans (hb10.mono hAw)
  go_upto_region 8 with fail
  show Code.wp _ _ _ _ ((w9.alloc (.cells #[.int .u8 97, .int .u8 98, .int .u8 99] 5 (3, 4))).alloc (.cells (frameC x3 (.slice (some ⟨w9.heap.size, 0, none⟩) 3 3)) 50))
  generalize (w9.alloc (.cells #[.int .u8 97, .int .u8 98, .int .u8 99] 5 (3, 4))).alloc (.cells (frameC x3 (.slice (some ⟨w9.heap.size, 0, none⟩) 3 3)) 50) = w10 at *
  generalize hG9 : w9.heap.size = G9 at *
  have hA10 : A ≤ w10.heap.size := by rw [← hA]; exact hb010.size
  have hc10 := has_cell hk8
  have hlt10 := heap_lt hk8
  clear hx3 hb10 hcv
  go_wp2_with fail
  refine (show Calls Tryd.prog 31 #[.agg (frameC x3 (.slice (some ⟨G9, 0, none⟩) 3 3))] w10 _ from encodeFrame_calls x3 hx4 x3_ok).mono ?_
  rintro e w11 ⟨cv, rfl, hoc, hb11⟩
  rw [x3_err]
  have hk11 := blk_below hk8 hb11
  have hx11 := hx4.below hb11
  have hb011 := hb010.trans (hb11.mono hA10)
  have hc11 := has_cell hk11
  have hlt11 := heap_lt hk11
  have hA11 : A ≤ w11.heap.size := by rw [← hA]; exact hb011.size
  clear hc10 hlt10
  go_wp2_with fail
  refine (copied_calls hoc.rb).mono ?_
  rintro e w12 ⟨cw, rfl, how, hb12⟩
  have hk12 := blk_below hk11 hb12
  have hx12 := hx11.below hb12
  have hoc12 := hoc.below hb12
  have hb012 := hb011.trans (hb12.mono hA11)
  have hA12 : A ≤ w12.heap.size := by rw [← hA]; exact hb012.size
  clear hc11 hlt11
  go_wp2_with fail
  refine (decodeFrame_calls how.rb).out.mono ?_
  rintro e w13 ⟨yv, rfl, hoy, hb13⟩
  rw [x3_dec, x3_derr] at *
  have hk13 := blk_below hk12 hb13
  have hx13 := hx12.below hb13
  have hoc13 := hoc12.below hb13
  have hb013 := hb012.trans (hb13.mono hA12)
  have hA13 : A ≤ w13.heap.size := by rw [← hA]; exact hb013.size
  have hc13 := has_cell hk13
  have hlt13 := heap_lt hk13
  obtain ⟨cp, cc, hcf⟩ := hoc13.rb.form
  rw [x3_len] at hcf
  have hsz13 := hoy.lt
  have hry := hoy.rb
  obtain ⟨yp, yc, hyf⟩ := hry.form
  generalize hyn : x3.pay.length = yn at hyf
  clear hoc13 hoc12 how hoc hoy hsz13 hyn
  subst hcf hyf
  have hk14 := heap_new w13 (.cells (frameC x3 (.slice yp yn yc)) 50) w13.heap.size rfl
  have hb14 := below_alloc1 w13 (.cells (frameC x3 (.slice yp yn yc)) 50)
  have hk14x := blk_below hk13 hb14
  have hb014 := hb013.trans (hb14.mono hA13)
  have hx14 := hx13.below hb14
  have hry14 := hry.below hb14
  have hs14 : (w13.alloc (.cells (frameC x3 (.slice yp yn yc)) 50)).heap.size = w13.heap.size + 1 := by simp
  go_upto_region 10 with fail
  show Code.wp _ _ _ _ (w13.alloc (.cells (frameC x3 (.slice yp yn yc)) 50))
  generalize hG13 : w13.heap.size = G13 at *
  generalize w13.alloc (.cells (frameC x3 (.slice yp yn yc)) 50) = w14 at *
  have hca := has_cell hk14
  have hcb := has_cell hk14x
  have hla := heap_lt hk14
  have hlb := heap_lt hk14x
  have hA14 : A ≤ w14.heap.size := by omega
  clear hc13 hlt13
  go_wp2_with (first | (go_at_call 17; refine (num_same _ 0).out.mono ?_; rintro e w15 ⟨rfl, rfl⟩) | fail)
  have hyl : RB w14 (.slice yp yn yc) [97, 98, 99] := hry14
  refine (show Calls Tryd.prog 34 #[frameV 2 5 6 7 8 (.slice (some ⟨G9, 0, none⟩) 3 3), frameV 2 5 6 7 8 (.slice yp yn yc)] w14 _ from (sameFrame_calls (l := [97, 98, 99]) 2 5 6 7 8 hx14 hyl).out).mono ?_
  rintro e w15 ⟨rfl, hb15⟩
  go_wp2_with fail
  go_ret
  exact ⟨rfl, by rw [hA]; exact hb014.trans (hb15.mono hA14)⟩
end Go.Proofs.YtbgfoobcpacfeaaDoor

/- Reading is causal: a plain law of parsers. -/
namespace Go.Proofs.YtbgfoobcpacfeaaDoor
set_option linter.unusedVariables false
namespace Wi
/-- A parser looks only at what it has read: what it answers hangs on the bytes ahead of its place, and less of them is too short. -/
structure Good {α : Type} (f : List UInt8 → Res α) : Prop where
  ok : ∀ l x r, f l = .ok x r → ∃ pre, l = pre ++ r ∧ (∀ r', f (pre ++ r') = .ok x r') ∧ ∀ n, n < pre.length → f (pre.take n) = .bad []
  bad : ∀ l d r, f l = .bad (d :: r) → ∃ pre, l = pre ++ d :: r ∧ (∀ r', f (pre ++ d :: r') = .bad (d :: r')) ∧ ∀ n, n ≤ pre.length → f (pre.take n) = .bad []
  short : ∀ l, f l = .bad [] → ∀ n, n ≤ l.length → f (l.take n) = .bad []
def bindR {α β : Type} (f : List UInt8 → Res α) (g : α → List UInt8 → Res β) (l : List UInt8) : Res β :=
  match f l with
  | .ok x r => g x r
  | .bad r => .bad r
theorem Good.bind {α β : Type} {f : List UInt8 → Res α} {g : α → List UInt8 → Res β} (hf : Good f) (hg : ∀ x, Good (g x)) : Good (bindR f g) := by
  have key : ∀ (pre1 : List UInt8) (x : α), (∀ r', f (pre1 ++ r') = .ok x r') → (∀ n, n < pre1.length → f (pre1.take n) = .bad []) → ∀ (pre2 : List UInt8) (m : Nat), (∀ n, n < m → g x (pre2.take n) = .bad []) → ∀ n, n < pre1.length + m → bindR f g ((pre1 ++ pre2).take n) = .bad [] := by
    intro pre1 x h1 h2 pre2 m h3 n hn
    unfold bindR
    rcases Nat.lt_or_ge n pre1.length with h | h
    · rw [List.take_append_of_le_length (by omega), h2 n h]
    · rw [List.take_append, List.take_of_length_le h, h1]
      exact h3 _ (by omega)
  refine ⟨fun l y s h => ?_, fun l d s h => ?_, fun l h n hn => ?_⟩
  · unfold bindR at h
    cases e : f l with
    | ok x r =>
      rw [e] at h
      obtain ⟨p1, rfl, a1, a2⟩ := hf.ok l x r e
      obtain ⟨p2, rfl, b1, b2⟩ := (hg x).ok r y s h
      refine ⟨p1 ++ p2, by simp, fun r' => ?_, fun n hn => key p1 x a1 a2 p2 p2.length b2 n (by simpa using hn)⟩
      unfold bindR
      rw [List.append_assoc, a1]
      exact b1 r'
    | bad r => rw [e] at h; cases h
  · unfold bindR at h
    cases e : f l with
    | ok x r =>
      rw [e] at h
      obtain ⟨p1, rfl, a1, a2⟩ := hf.ok l x r e
      obtain ⟨p2, rfl, b1, b2⟩ := (hg x).bad r d s h
      refine ⟨p1 ++ p2, by simp, fun r' => ?_, fun n hn => key p1 x a1 a2 p2 (p2.length + 1) (fun n hn => b2 n (by omega)) n (by simp at hn; omega)⟩
      unfold bindR
      rw [List.append_assoc, a1]
      exact b1 r'
    | bad r =>
      rw [e] at h
      simp only [Res.bad.injEq] at h
      subst h
      obtain ⟨p1, rfl, a1, a2⟩ := hf.bad _ d s e
      refine ⟨p1, rfl, fun r' => ?_, fun n hn => ?_⟩
      · unfold bindR; rw [a1]
      · unfold bindR; rw [a2 n hn]
  · unfold bindR at h
    cases e : f l with
    | ok x r =>
      rw [e] at h
      obtain ⟨p1, rfl, a1, a2⟩ := hf.ok l x r e
      exact key p1 x a1 a2 r (r.length + 1) (fun n hn => (hg x).short r h n (by omega)) n (by simp at hn; omega)
    | bad r =>
      rw [e] at h
      simp only [Res.bad.injEq] at h
      subst h
      unfold bindR
      rw [hf.short l e n hn]
theorem Good.pure {α : Type} (x : α) : Good (fun l => Res.ok x l) := by
  refine ⟨fun l y r h => ?_, fun l d r h => (by cases h), fun l h => (by cases h)⟩
  simp only [Res.ok.injEq] at h
  obtain ⟨rfl, rfl⟩ := h
  exact ⟨[], rfl, fun _ => rfl, fun n hn => by simp at hn⟩
/-- One byte under a test. -/
def byteT (t : UInt8 → Bool) : List UInt8 → Res UInt8
  | [] => .bad []
  | c :: l => if t c then .ok c l else .bad (c :: l)
theorem byteT_cons (t : UInt8 → Bool) (c : UInt8) (l : List UInt8) : byteT t (c :: l) = if t c then .ok c l else .bad (c :: l) := rfl
theorem byteT_good (t : UInt8 → Bool) : Good (byteT t) := by
  refine ⟨fun l x r h => ?_, fun l d r h => ?_, fun l h n hn => ?_⟩
  · cases l with
    | nil => cases h
    | cons c l =>
      rw [byteT_cons] at h
      split at h
      · rename_i ht
        simp only [Res.ok.injEq] at h
        obtain ⟨rfl, rfl⟩ := h
        refine ⟨[c], rfl, fun r' => by rw [show [c] ++ r' = c :: r' from rfl, byteT_cons, if_pos ht], fun n hn => ?_⟩
        obtain rfl : n = 0 := by simp at hn; omega
        rfl
      · cases h
  · cases l with
    | nil => cases h
    | cons c l =>
      rw [byteT_cons] at h
      split at h
      · cases h
      · rename_i ht
        simp only [Res.bad.injEq, List.cons.injEq] at h
        obtain ⟨rfl, rfl⟩ := h
        refine ⟨[], rfl, fun r' => by rw [List.nil_append, byteT_cons, if_neg ht], fun n hn => ?_⟩
        rw [List.take_nil]
        rfl
  · cases l with
    | nil => rw [List.take_nil]; rfl
    | cons c l =>
      rw [byteT_cons] at h
      split at h
      · cases h
      · simp only [Res.bad.injEq] at h
        cases h
/-- So many bytes. -/
def takeR (n : Nat) (l : List UInt8) : Res (List UInt8) := if l.length < n then .bad [] else .ok (l.take n) (l.drop n)
theorem takeR_good (n : Nat) : Good (takeR n) := by
  refine ⟨fun l x r h => ?_, fun l d r h => ?_, fun l h k hk => ?_⟩
  · unfold takeR at h
    split at h
    · cases h
    · rename_i hl
      simp only [Res.ok.injEq] at h
      obtain ⟨rfl, rfl⟩ := h
      have hlen : (l.take n).length = n := by rw [List.length_take]; omega
      refine ⟨l.take n, (List.take_append_drop n l).symm, fun r' => ?_, fun k hk => ?_⟩
      · unfold takeR
        rw [if_neg (by rw [List.length_append, hlen]; omega), List.take_append_of_le_length (by omega), List.take_of_length_le (by omega), List.drop_append, List.drop_of_length_le (by omega), hlen, Nat.sub_self]
        rfl
      · unfold takeR
        rw [if_pos (by rw [List.length_take]; omega)]
  · unfold takeR at h
    split at h
    · simp only [Res.bad.injEq] at h; cases h
    · cases h
  · unfold takeR at h
    split at h
    · unfold takeR
      rw [if_pos (by rw [List.length_take]; omega)]
    · cases h
theorem rdNum_good (s : List (Nat × Nat)) : ∀ k v, Good (rdNum s k v)
  | 0, v => by
    have : rdNum s 0 v = fun l => Res.ok v l := by funext l; simp [rdNum]
    rw [this]; exact Good.pure v
  | k + 1, v => by
    have : rdNum s (k + 1) v = bindR (byteT fun c => meets s ((v * 256 + c.toNat) * 256 ^ k) ((v * 256 + c.toNat + 1) * 256 ^ k - 1)) (fun c => rdNum s k (v * 256 + c.toNat)) := by
      funext l
      cases l with
      | nil => rfl
      | cons c l =>
        unfold bindR
        rw [rdNum, byteT_cons]
        cases meets s ((v * 256 + c.toNat) * 256 ^ k) ((v * 256 + c.toNat + 1) * 256 ^ k - 1) <;> rfl
    rw [this]
    exact (byteT_good _).bind fun c => rdNum_good s k _
theorem rdSum_good (z : Bool) : ∀ k, Good (rdSum z k)
  | 0 => by
    have : rdSum z 0 = fun l => Res.ok [] l := by funext l; simp [rdSum]
    rw [this]; exact Good.pure []
  | k + 1 => by
    have : rdSum z (k + 1) = bindR (byteT fun c => !(z && c != 0)) (fun c => bindR (rdSum z k) fun s l => .ok (c :: s) l) := by
      funext l
      cases l with
      | nil => rfl
      | cons c l =>
        unfold bindR
        rw [rdSum, byteT_cons]
        cases h : (z && c != 0)
        · simp only [Bool.not_false, if_true, Bool.false_eq_true, if_false]
          cases rdSum z k l <;> rfl
        · simp
    rw [this]
    exact (byteT_good _).bind fun c => (rdSum_good z k).bind fun s => Good.pure _
theorem rdF_good (p : Pk) (x : Fd) : Good (rdF p x) := by
  cases x with
  | num k f =>
    have : rdF p (.num k f) = bindR (rdNum (spansOf f p) 4 0) fun v l => .ok (p.setNum k v) l := by
      funext l
      simp only [rdF, bindR]
      cases rdNum (spansOf f p) 4 0 l <;> rfl
    rw [this]
    exact (rdNum_good _ _ _).bind fun v => Good.pure _
  | gens =>
    have : rdF p .gens = bindR (takeR 32) fun b l => .ok { p with g1 := unbe (b.take 8), g2 := unbe ((b.drop 8).take 8), g3 := unbe ((b.drop 16).take 8), g4 := unbe ((b.drop 24).take 8) } l := by
      funext l
      simp only [rdF, bindR, takeR]
      split
      · rfl
      · simp only [List.take_take, List.drop_take]
        rfl
    rw [this]
    exact (takeR_good _).bind fun v => Good.pure _
  | sum f =>
    have : rdF p (.sum f) = bindR (rdSum (zeroOf f p) 32) fun s l => .ok { p with sum := s } l := by
      funext l
      simp only [rdF, bindR]
      cases rdSum (zeroOf f p) 32 l <;> rfl
    rw [this]
    exact (rdSum_good _ _).bind fun v => Good.pure _
  | dat f =>
    have : rdF p (.dat f) = bindR (rdNum (spansOf f p) 2 0) fun n => bindR (takeR n) fun b l => .ok { p with data := b } l := by
      funext l
      simp only [rdF, bindR]
      cases rdNum (spansOf f p) 2 0 l with
      | ok n r =>
        simp only [takeR]
        split <;> rfl
      | bad r => rfl
    rw [this]
    exact (rdNum_good _ _ _).bind fun n => (takeR_good n).bind fun b => Good.pure _
theorem rdAll_good : ∀ (fs : List Fd) (p : Pk), Good (rdAll fs p)
  | [], p => by
    have : rdAll [] p = fun l => Res.ok p l := by funext l; simp [rdAll]
    rw [this]; exact Good.pure p
  | x :: fs, p => by
    have : rdAll (x :: fs) p = bindR (rdF p x) fun q => rdAll fs q := by
      funext l
      simp only [rdAll, bindR]
      cases rdF p x l <;> rfl
    rw [this]
    exact (rdF_good p x).bind fun q => rdAll_good fs q
end Wi
end Go.Proofs.YtbgfoobcpacfeaaDoor

/- Plain laws of numbers in bytes and of frames: what is written is read back, what is read is what was written. -/
namespace Go.Proofs.YtbgfoobcpacfeaaDoor
namespace Wi

theorem unbe_foldl (l : List UInt8) : ∀ a : Nat, l.foldl (fun v c => v * 256 + c.toNat) a = a * 256 ^ l.length + unbe l := by
  induction l with
  | nil => intro a; simp [unbe]
  | cons b l ih =>
    intro a
    unfold unbe
    simp only [List.foldl_cons, List.length_cons]
    rw [ih, ih]
    have : (256 : Nat) ^ (l.length + 1) = 256 ^ l.length * 256 := Nat.pow_succ 256 l.length
    rw [this]
    simp only [Nat.zero_mul, Nat.zero_add, Nat.add_mul, Nat.mul_assoc, Nat.mul_comm 256]
    omega
theorem unbe_cons (b : UInt8) (l : List UInt8) : unbe (b :: l) = b.toNat * 256 ^ l.length + unbe l := by
  show List.foldl _ _ l = _
  rw [unbe_foldl]
  simp
theorem pow256 (n : Nat) : (256 : Nat) ^ n = 2 ^ (8 * n) := by rw [Nat.pow_mul]
theorem be_add (n : Nat) : ∀ v k : Nat, be n (v + k * 256 ^ n) = be n v := by
  induction n with
  | zero => intro v k; rfl
  | succ n ih =>
    intro v k
    have hp : (256 : Nat) ^ (n + 1) = 256 ^ n * 256 := Nat.pow_succ 256 n
    simp only [be]
    have e1 : v + k * 256 ^ (n + 1) = v + (k * 256) * 256 ^ n := by rw [hp, Nat.mul_comm (256 ^ n), Nat.mul_assoc]
    have e2 : UInt8.ofNat ((v + k * 256 ^ (n + 1)) >>> (8 * n)) = UInt8.ofNat (v >>> (8 * n)) := by
      rw [e1, Nat.shiftRight_eq_div_pow, Nat.shiftRight_eq_div_pow, ← pow256, Nat.add_mul_div_right _ _ (Nat.pow_pos (by decide))]
      apply UInt8.toNat_inj.1
      simp
    rw [e2, e1, ih]
theorem be_unbe : ∀ l : List UInt8, be l.length (unbe l) = l
  | [] => rfl
  | b :: l => by
    have hlt := unbe_lt l
    have hb := b.toNat_lt
    rw [unbe_cons, List.length_cons]
    simp only [be]
    rw [Nat.add_comm, be_add, be_unbe l]
    congr 1
    rw [Nat.shiftRight_eq_div_pow, ← pow256, Nat.add_mul_div_right _ _ (Nat.pow_pos (by decide)), Nat.div_eq_of_lt hlt, Nat.zero_add]
    apply UInt8.toNat_inj.1
    simp
theorem unbe_be (n : Nat) : ∀ v : Nat, unbe (be n v) = v % 256 ^ n := by
  induction n with
  | zero => intro v; simp [be, unbe]; omega
  | succ n ih =>
    intro v
    have hp : (256 : Nat) ^ (n + 1) = 256 ^ n * 256 := Nat.pow_succ 256 n
    simp only [be]
    rw [unbe_cons, be_length, ih, Nat.shiftRight_eq_div_pow, ← pow256, UInt8.toNat_ofNat', hp, Nat.mod_mul]
    have : (2 : Nat) ^ 8 = 256 := rfl
    rw [this, Nat.mul_comm (v / 256 ^ n % 256)]
    omega
theorem unbe_be_lt {n v : Nat} (h : v < 256 ^ n) : unbe (be n v) = v := by rw [unbe_be, Nat.mod_eq_of_lt h]
theorem be_unbe_n {l : List UInt8} {n : Nat} (h : l.length = n) : be n (unbe l) = l := by subst h; exact be_unbe l
theorem unbe_two (a b : UInt8) : unbe [a, b] = 256 * a.toNat + b.toNat := by simp [unbe]; omega
end Wi
end Go.Proofs.YtbgfoobcpacfeaaDoor

/- What is written is read back; what is read is what was written: plain laws. -/
namespace Go.Proofs.YtbgfoobcpacfeaaDoor
set_option linter.unusedVariables false
set_option linter.unusedSimpArgs false
namespace Wi
/-- Two packets agree at a key: 0 .. 4 the numbers, 5 the identifiers, 6 the digest, 7 the data. -/
def Eqk (k : Nat) (p q : Pk) : Prop :=
  match k with
  | 0 => p.id = q.id
  | 1 => p.block = q.block
  | 2 => p.epoch = q.epoch
  | 3 => p.count = q.count
  | 4 => p.flags = q.flags
  | 5 => p.g1 = q.g1 ∧ p.g2 = q.g2 ∧ p.g3 = q.g3 ∧ p.g4 = q.g4
  | 6 => p.sum = q.sum
  | 7 => p.data = q.data
  | _ => True
theorem Eqk.refl (k : Nat) (p : Pk) : Eqk k p p := by
  unfold Eqk
  split <;> simp
theorem Eqk.symm {k : Nat} {p q : Pk} (h : Eqk k p q) : Eqk k q p := by
  unfold Eqk at *
  split at h <;> simp_all
theorem Eqk.trans {k : Nat} {p q r : Pk} (h : Eqk k p q) (h' : Eqk k q r) : Eqk k p r := by
  unfold Eqk at *
  split at h <;> simp_all
theorem pk_ext {p q : Pk} (hc : p.cmd = q.cmd) (h : ∀ k, k < 8 → Eqk k p q) : p = q := by
  have h0 : p.id = q.id := h 0 (by decide)
  have h1 : p.block = q.block := h 1 (by decide)
  have h2 : p.epoch = q.epoch := h 2 (by decide)
  have h3 : p.count = q.count := h 3 (by decide)
  have h4 : p.flags = q.flags := h 4 (by decide)
  obtain ⟨h5, h6, h7, h8⟩ : p.g1 = q.g1 ∧ p.g2 = q.g2 ∧ p.g3 = q.g3 ∧ p.g4 = q.g4 := h 5 (by decide)
  have h9 : p.sum = q.sum := h 6 (by decide)
  have h10 : p.data = q.data := h 7 (by decide)
  cases p; cases q
  simp_all
def key : Fd → Nat
  | .num k _ => k.toNat
  | .gens => 5
  | .sum _ => 6
  | .dat _ => 7
/-- What a function of the table looks at. -/
def needsF (f : FuncId) : List Nat := if f = 66 then [0] else if f = 74 then [1] else if f = 80 ∨ f = 78 then [4] else []
def fnOf : Fd → FuncId
  | .num _ f => f
  | .gens => 0
  | .sum f => f
  | .dat f => f
def needs : Fd → List Nat
  | .num _ f => needsF f
  | .gens => []
  | .sum f => needsF f
  | .dat f => needsF f
def orderly : List Nat → List Fd → Bool
  | _, [] => true
  | done, x :: fs => (needs x).all (fun k => done.contains k) && !done.contains (key x) && orderly (key x :: done) fs
theorem all_orderly : ∀ c ∈ cmdTab, orderly [] c.2 = true := by decide
theorem keys_lt : ∀ c ∈ cmdTab, ∀ x ∈ c.2, key x < 8 := by decide
theorem spans_eq {f : FuncId} {p q : Pk} (h : ∀ k ∈ needsF f, Eqk k p q) : spansOf f p = spansOf f q := by
  unfold needsF at h
  by_cases h1 : f = 66
  · subst h1
    have : p.id = q.id := h 0 (by simp)
    show [(p.id, 4294967295)] = [(q.id, 4294967295)]
    rw [this]
  · by_cases h2 : f = 74
    · subst h2
      have : p.block = q.block := h 1 (by simp)
      show [(1, min 8 ((4294967360 - p.block) % 4294967296))] = [(1, min 8 ((4294967360 - q.block) % 4294967296))]
      rw [this]
    · by_cases h3 : f = 80 ∨ f = 78
      · have : p.flags = q.flags := h 4 (by simp [h1, h2, h3])
        unfold spansOf
        simp only [if_neg h1, if_neg h2, this]
      · have h4 : f ≠ 80 := fun e => h3 (.inl e)
        unfold spansOf
        simp only [if_neg h1, if_neg h2, if_neg h4]
theorem zero_eq {f : FuncId} {p q : Pk} (h : ∀ k ∈ needsF f, Eqk k p q) : zeroOf f p = zeroOf f q := by
  unfold zeroOf
  split
  · rename_i e
    subst e
    have : p.flags = q.flags := h 4 (by decide)
    rw [this]
  · rfl
/-- Numbers. -/
theorem be_mod (k v : Nat) : be k v = be k (v % 256 ^ k) := by
  have h := Nat.mod_add_div v (256 ^ k)
  rw [Nat.mul_comm] at h
  have := be_add k (v % 256 ^ k) (v / 256 ^ k)
  rw [h] at this
  exact this
theorem meets_wide {s : List (Nat × Nat)} {a b lo hi : Nat} (h : meets s a b = true) (h1 : lo ≤ a) (h2 : b ≤ hi) : meets s lo hi = true := by
  unfold meets at *
  rw [List.any_eq_true] at *
  obtain ⟨x, hx, hm⟩ := h
  refine ⟨x, hx, ?_⟩
  simp only [Bool.and_eq_true, decide_eq_true_eq] at *
  omega
theorem rdNum_be (s : List (Nat × Nat)) (r : List UInt8) : ∀ (k acc v : Nat), v < 256 ^ k → meets s (acc * 256 ^ k + v) (acc * 256 ^ k + v) = true → rdNum s k acc (be k v ++ r) = .ok (acc * 256 ^ k + v) r
  | 0, acc, v, hv, hm => by
    have : v = 0 := by simpa using hv
    subst this
    simp [rdNum, be]
  | k + 1, acc, v, hv, hm => by
    have hp : 0 < 256 ^ k := Nat.pow_pos (by decide)
    have hd : v / 256 ^ k < 256 := by
      rw [Nat.div_lt_iff_lt_mul hp, Nat.mul_comm, ← Nat.pow_succ]; exact hv
    have hsh : v >>> (8 * k) = v / 256 ^ k := by rw [Nat.shiftRight_eq_div_pow, ← pow256]
    have hc : (UInt8.ofNat (v >>> (8 * k))).toNat = v / 256 ^ k := by
      rw [hsh, UInt8.toNat_ofNat']
      exact Nat.mod_eq_of_lt hd
    have hrest : be k v = be k (v % 256 ^ k) := be_mod k v
    have hval : (acc * 256 + v / 256 ^ k) * 256 ^ k + v % 256 ^ k = acc * 256 ^ (k + 1) + v := by
      have := Nat.div_add_mod v (256 ^ k)
      rw [Nat.add_mul, Nat.mul_assoc, show 256 * 256 ^ k = 256 ^ (k + 1) by rw [Nat.pow_succ, Nat.mul_comm], Nat.mul_comm (v / 256 ^ k)]
      omega
    show rdNum s (k + 1) acc (UInt8.ofNat (v >>> (8 * k)) :: (be k v ++ r)) = _
    rw [rdNum, hc, if_pos, hrest, rdNum_be s r k (acc * 256 + v / 256 ^ k) (v % 256 ^ k) (Nat.mod_lt _ hp), hval]
    · rw [hval]; exact hm
    · refine meets_wide hm ?_ ?_
      · rw [← hval]; exact Nat.le_add_right _ _
      · rw [← hval]
        have := Nat.mod_lt v hp
        rw [Nat.add_mul (acc * 256 + v / 256 ^ k) 1, Nat.one_mul]
        omega
theorem rdNum_inv (s : List (Nat × Nat)) : ∀ (k acc : Nat) (l : List UInt8) (t : Nat) (r : List UInt8), rdNum s k acc l = .ok t r → ∃ v, v < 256 ^ k ∧ t = acc * 256 ^ k + v ∧ l = be k v ++ r ∧ (0 < k → meets s t t = true)
  | 0, acc, l, t, r, h => by
    simp only [rdNum, Res.ok.injEq] at h
    obtain ⟨rfl, rfl⟩ := h
    exact ⟨0, by decide, by simp, by simp [be], fun h => absurd h (by decide)⟩
  | k + 1, acc, [], t, r, h => by simp [rdNum] at h
  | k + 1, acc, c :: l, t, r, h => by
    rw [rdNum] at h
    split at h
    · rename_i hm
      obtain ⟨v, hv, ht, hl, hms⟩ := rdNum_inv s k _ l t r h
      have hp : 0 < 256 ^ k := Nat.pow_pos (by decide)
      have hc := c.toNat_lt
      have hp1 : (256 : Nat) ^ (k + 1) = 256 ^ k * 256 := Nat.pow_succ 256 k
      refine ⟨c.toNat * 256 ^ k + v, ?_, ?_, ?_, fun _ => ?_⟩
      · rw [hp1]
        have : c.toNat * 256 ^ k ≤ 255 * 256 ^ k := Nat.mul_le_mul_right _ (by omega)
        omega
      · rw [ht, hp1, Nat.add_mul, ← Nat.add_assoc, Nat.mul_assoc acc, Nat.mul_comm 256]
      · show c :: l = UInt8.ofNat ((c.toNat * 256 ^ k + v) >>> (8 * k)) :: (be k (c.toNat * 256 ^ k + v) ++ r)
        rw [Nat.add_comm, be_add, ← hl, Nat.shiftRight_eq_div_pow, ← pow256, Nat.add_mul_div_right _ _ hp, Nat.div_eq_of_lt hv, Nat.zero_add]
        congr 1
        apply UInt8.toNat_inj.1
        simp
      · cases k with
        | zero =>
          have hv0 : v = 0 := by simpa using hv
          subst hv0
          rw [ht]
          simpa using hm
        | succ k => exact hms (by omega)
    · cases h
def datFn (f : FuncId) : Bool := f == 67 || f == 64 || f == 75 || f == 80
def datOk : Fd → Bool
  | .dat f => datFn f
  | _ => true
theorem dats_ok : ∀ c ∈ cmdTab, ∀ x ∈ c.2, datOk x = true := by decide
theorem dat_small {f : FuncId} {p : Pk} {n : Nat} (hf : datFn f = true) (h : meets (spansOf f p) n n = true) : n ≤ 1024 := by
  unfold datFn at hf
  simp only [Bool.or_eq_true, beq_iff_eq] at hf
  rcases hf with ((rfl | rfl) | rfl) | rfl
  · have : meets [(16, 16)] n n = true := h
    simp [meets] at this; omega
  · have : meets [(1, 1024)] n n = true := h
    simp [meets] at this; omega
  · have : meets [(1, 256)] n n = true := h
    simp [meets] at this; omega
  · have : meets (if p.flags = 0 then [(1, 1024)] else [(0, 0)]) n n = true := h
    split at this
    · simp [meets] at this; omega
    · simp [meets] at this; omega
def numOk : Fd → Bool
  | .num k _ => decide (0 ≤ k) && decide (k ≤ 4)
  | _ => true
theorem nums_ok : ∀ c ∈ cmdTab, ∀ x ∈ c.2, numOk x = true := by decide
theorem setNum_eq {p q : Pk} {k : Int} (h0 : 0 ≤ k) (h4 : k ≤ 4) (v : Nat) (hv : v = q.num k) : Eqk k.toNat (p.setNum k v) q ∧ (∀ j, j ≠ k.toNat → Eqk j (p.setNum k v) p) ∧ (p.setNum k v).cmd = p.cmd ∧ (p.setNum k v).num k = v := by
  subst hv
  rcases (show k = 0 ∨ k = 1 ∨ k = 2 ∨ k = 3 ∨ k = 4 by omega) with rfl | rfl | rfl | rfl | rfl
  all_goals
    refine ⟨rfl, fun j hj => ?_, rfl, rfl⟩
    unfold Eqk
    split <;> first | rfl | exact ⟨rfl, rfl, rfl, rfl⟩ | exact absurd rfl hj | trivial
theorem num_of_eqk {p q : Pk} {k : Int} (h0 : 0 ≤ k) (h4 : k ≤ 4) (h : Eqk k.toNat p q) : p.num k = q.num k := by
  rcases (show k = 0 ∨ k = 1 ∨ k = 2 ∨ k = 3 ∨ k = 4 by omega) with rfl | rfl | rfl | rfl | rfl
  all_goals exact h
theorem zeros_eq {s : List UInt8} (hl : s.length = 32) (h : ∀ b ∈ s, b = 0) : s = zeros := by
  unfold zeros
  exact List.eq_replicate_iff.2 ⟨hl, h⟩
theorem rdSum_wr (z : Bool) (r : List UInt8) : ∀ (s : List UInt8), (z = true → ∀ b ∈ s, b = 0) → rdSum z s.length (s ++ r) = .ok s r
  | [], h => by simp [rdSum]
  | c :: s, h => by
    show rdSum z (s.length + 1) (c :: (s ++ r)) = _
    have hc : (z && c != 0) = false := by
      cases z
      · rfl
      · rw [h rfl c (by simp)]; rfl
    rw [rdSum, rdSum_wr z r s (fun hz b hb => h hz b (by simp [hb]))]
    simp only [hc, Bool.false_eq_true, if_false]
/-- What is written as a field is read as it. -/
theorem rdF_wr {p q : Pk} {x : Fd} (hq : q.Ok) (hx1 : numOk x = true) (hx2 : datOk x = true) (hok : okF q x = true) (hn : ∀ k ∈ needs x, Eqk k p q) (r : List UInt8) :
    ∃ p', rdF p x (wrF q x ++ r) = .ok p' r ∧ Eqk (key x) p' q ∧ (∀ k, k ≠ key x → Eqk k p' p) ∧ p'.cmd = p.cmd := by
  cases x with
  | num k f =>
    obtain ⟨h0, h4⟩ : 0 ≤ k ∧ k ≤ 4 := by simpa [numOk] using hx1
    have hm : meets (spansOf f q) (q.num k) (q.num k) = true := hok
    have h := rdNum_be (spansOf f p) r 4 0 (q.num k) (by have := hq.num k; simpa using this) (by rw [spans_eq hn]; simpa using hm)
    rw [Nat.zero_mul, Nat.zero_add] at h
    obtain ⟨e1, e2, e3, -⟩ := setNum_eq (p := p) (q := q) h0 h4 (q.num k) rfl
    refine ⟨p.setNum k (q.num k), ?_, e1, e2, e3⟩
    simp only [rdF, wrF, h]
  | gens =>
    have hl : (be 8 q.g1 ++ be 8 q.g2 ++ be 8 q.g3 ++ be 8 q.g4).length = 32 := by simp [be_length]
    refine ⟨{ p with g1 := q.g1, g2 := q.g2, g3 := q.g3, g4 := q.g4 }, ?_, ⟨rfl, rfl, rfl, rfl⟩, fun j hj => ?_, rfl⟩
    · have hw : wrF q .gens = be 8 q.g1 ++ be 8 q.g2 ++ be 8 q.g3 ++ be 8 q.g4 := rfl
      rw [hw, rdF, if_neg (by rw [List.length_append, hl]; omega)]
      have l1 := be_length 8 q.g1
      have l2 := be_length 8 q.g2
      have l3 := be_length 8 q.g3
      have l4 := be_length 8 q.g4
      have u1 := unbe_be_lt (n := 8) (v := q.g1) hq.g1
      have u2 := unbe_be_lt (n := 8) (v := q.g2) hq.g2
      have u3 := unbe_be_lt (n := 8) (v := q.g3) hq.g3
      have u4 := unbe_be_lt (n := 8) (v := q.g4) hq.g4
      generalize be 8 q.g1 = b1 at *
      generalize be 8 q.g2 = b2 at *
      generalize be 8 q.g3 = b3 at *
      generalize be 8 q.g4 = b4 at *
      have t1 : (b1 ++ b2 ++ b3 ++ b4 ++ r).take 8 = b1 := by simp [List.take_append, l1, List.take_of_length_le (Nat.le_of_eq l1)]
      have t2 : ((b1 ++ b2 ++ b3 ++ b4 ++ r).drop 8).take 8 = b2 := by simp [List.append_assoc, List.drop_append, l1, List.drop_of_length_le (Nat.le_of_eq l1), List.take_append, l2, List.take_of_length_le (Nat.le_of_eq l2)]
      have t3 : ((b1 ++ b2 ++ b3 ++ b4 ++ r).drop 16).take 8 = b3 := by
        rw [show b1 ++ b2 ++ b3 ++ b4 ++ r = (b1 ++ b2) ++ (b3 ++ (b4 ++ r)) by simp, List.drop_append, List.drop_of_length_le (by simp [l1, l2])]
        simp [l1, l2, List.take_append, l3, List.take_of_length_le (Nat.le_of_eq l3)]
      have t4 : ((b1 ++ b2 ++ b3 ++ b4 ++ r).drop 24).take 8 = b4 := by
        rw [show b1 ++ b2 ++ b3 ++ b4 ++ r = (b1 ++ b2 ++ b3) ++ (b4 ++ r) by simp, List.drop_append, List.drop_of_length_le (by simp [l1, l2, l3])]
        simp [l1, l2, l3, List.take_append, l4, List.take_of_length_le (Nat.le_of_eq l4)]
      have t5 : (b1 ++ b2 ++ b3 ++ b4 ++ r).drop 32 = r := by
        rw [List.drop_append, List.drop_of_length_le (by omega), hl]; simp
      rw [t1, t2, t3, t4, t5, u1, u2, u3, u4]
    · unfold Eqk
      split <;> first | rfl | exact absurd rfl hj | trivial
  | sum f =>
    have hz : zeroOf f p = zeroOf f q := zero_eq hn
    have h := rdSum_wr (zeroOf f p) r q.sum (fun hz' => by
      have hok' : (!zeroOf f q || decide (q.sum = zeros)) = true := hok
      rw [← hz, hz'] at hok'
      have : q.sum = zeros := by simpa using hok'
      rw [this]
      intro b hb
      exact (List.mem_replicate.1 hb).2)
    rw [hq.sum] at h
    refine ⟨{ p with sum := q.sum }, ?_, rfl, fun j hj => ?_, rfl⟩
    · simp only [rdF, wrF, h]
    · unfold Eqk
      split <;> first | rfl | exact ⟨rfl, rfl, rfl, rfl⟩ | exact absurd rfl hj | trivial
  | dat f =>
    have hm : meets (spansOf f q) q.data.length q.data.length = true := hok
    have hs := dat_small hx2 hm
    have h := rdNum_be (spansOf f p) (q.data ++ r) 2 0 q.data.length (by have : (256 : Nat) ^ 2 = 65536 := rfl; omega) (by rw [spans_eq hn]; simpa using hm)
    rw [Nat.zero_mul, Nat.zero_add] at h
    refine ⟨{ p with data := q.data }, ?_, rfl, fun j hj => ?_, rfl⟩
    · simp only [rdF, wrF, List.append_assoc, h]
      rw [if_neg (by simp)]
      simp
    · unfold Eqk
      split <;> first | rfl | exact ⟨rfl, rfl, rfl, rfl⟩ | exact absurd rfl hj | trivial
end Wi
end Go.Proofs.YtbgfoobcpacfeaaDoor

/- The packet's laws: what is written is read back, and what is read is what was written. -/
namespace Go.Proofs.YtbgfoobcpacfeaaDoor
set_option linter.unusedVariables false
set_option linter.unusedSimpArgs false
namespace Wi
/-- What is read as a field is what is written for it. -/
theorem rdF_inv {p q : Pk} {x : Fd} {l r : List UInt8} (hx1 : numOk x = true) (h : rdF p x l = .ok q r) :
    (∀ k, k ≠ key x → Eqk k q p) ∧ q.cmd = p.cmd ∧ ∃ b, l = b ++ r ∧ ∀ q', Eqk (key x) q q' → (∀ k ∈ needs x, Eqk k p q') → okF q' x = true ∧ wrF q' x = b := by
  cases x with
  | num k f =>
    obtain ⟨h0, h4⟩ : 0 ≤ k ∧ k ≤ 4 := by simpa [numOk] using hx1
    simp only [rdF] at h
    cases e : rdNum (spansOf f p) 4 0 l with
    | bad u => rw [e] at h; cases h
    | ok v u =>
      rw [e] at h
      simp only [Res.ok.injEq] at h
      obtain ⟨rfl, rfl⟩ := h
      obtain ⟨v', hv', ht, hl, hm⟩ := rdNum_inv _ _ _ _ _ _ e
      rw [Nat.zero_mul, Nat.zero_add] at ht
      subst ht
      have hset : ∀ q' : Pk, Eqk k.toNat (p.setNum k v) q' → q'.num k = v := fun q' hq' => by
        rw [← num_of_eqk h0 h4 hq']
        rcases (show k = 0 ∨ k = 1 ∨ k = 2 ∨ k = 3 ∨ k = 4 by omega) with rfl | rfl | rfl | rfl | rfl
        all_goals rfl
      refine ⟨fun j hj => ?_, ?_, be 4 v, hl, fun q' hq' hn => ?_⟩
      · rcases (show k = 0 ∨ k = 1 ∨ k = 2 ∨ k = 3 ∨ k = 4 by omega) with rfl | rfl | rfl | rfl | rfl
        all_goals
          unfold Eqk
          split <;> first | rfl | exact ⟨rfl, rfl, rfl, rfl⟩ | exact absurd rfl hj | trivial
      · rcases (show k = 0 ∨ k = 1 ∨ k = 2 ∨ k = 3 ∨ k = 4 by omega) with rfl | rfl | rfl | rfl | rfl
        all_goals rfl
      · have hv := hset q' hq'
        refine ⟨?_, by show be 4 (q'.num k) = _; rw [hv]⟩
        show meets (spansOf f q') (q'.num k) (q'.num k) = true
        rw [hv, ← spans_eq hn]
        exact hm (by decide)
  | gens =>
    simp only [rdF] at h
    split at h
    · cases h
    · rename_i hl
      simp only [Res.ok.injEq] at h
      obtain ⟨rfl, rfl⟩ := h
      refine ⟨fun j hj => ?_, rfl, l.take 32, (List.take_append_drop 32 l).symm, fun q' hq' hn => ⟨rfl, ?_⟩⟩
      · unfold Eqk
        split <;> first | rfl | exact ⟨rfl, rfl, rfl, rfl⟩ | exact absurd rfl hj | trivial
      · obtain ⟨e1, e2, e3, e4⟩ : unbe (l.take 8) = q'.g1 ∧ unbe ((l.drop 8).take 8) = q'.g2 ∧ unbe ((l.drop 16).take 8) = q'.g3 ∧ unbe ((l.drop 24).take 8) = q'.g4 := hq'
        show be 8 q'.g1 ++ be 8 q'.g2 ++ be 8 q'.g3 ++ be 8 q'.g4 = _
        rw [← e1, ← e2, ← e3, ← e4, be_unbe_n (by rw [List.length_take]; omega), be_unbe_n (by rw [List.length_take, List.length_drop]; omega), be_unbe_n (by rw [List.length_take, List.length_drop]; omega), be_unbe_n (by rw [List.length_take, List.length_drop]; omega)]
        have t : ∀ (m : List UInt8) (a b : Nat), m.take a ++ (m.drop a).take b = m.take (a + b) := fun m a b => by rw [List.take_add]
        rw [List.append_assoc, List.append_assoc, show l.drop 24 = (l.drop 16).drop 8 by rw [List.drop_drop], t (l.drop 16) 8 8, show l.drop 16 = (l.drop 8).drop 8 by rw [List.drop_drop], t (l.drop 8) 8 16, t l 8 24]
  | sum f =>
    simp only [rdF] at h
    cases e : rdSum (zeroOf f p) 32 l with
    | bad u => rw [e] at h; cases h
    | ok s u =>
      rw [e] at h
      simp only [Res.ok.injEq] at h
      obtain ⟨rfl, rfl⟩ := h
      obtain ⟨h1, h2, h3⟩ := rdSum_ok _ _ _ _ _ e
      refine ⟨fun j hj => ?_, rfl, s, h2.symm, fun q' hq' hn => ?_⟩
      · unfold Eqk
        split <;> first | rfl | exact ⟨rfl, rfl, rfl, rfl⟩ | exact absurd rfl hj | trivial
      · have hs : s = q'.sum := hq'
        refine ⟨?_, hs.symm⟩
        show (!zeroOf f q' || decide (q'.sum = zeros)) = true
        rw [← hs, ← zero_eq hn]
        cases hz : zeroOf f p
        · rfl
        · simp [zeros_eq h1 (h3 hz)]
  | dat f =>
    simp only [rdF] at h
    cases e : rdNum (spansOf f p) 2 0 l with
    | bad u => rw [e] at h; cases h
    | ok n u =>
      rw [e] at h
      simp only at h
      split at h
      · cases h
      · rename_i hlen
        simp only [Res.ok.injEq] at h
        obtain ⟨rfl, rfl⟩ := h
        obtain ⟨v', hv', ht, hl, hm⟩ := rdNum_inv _ _ _ _ _ _ e
        rw [Nat.zero_mul, Nat.zero_add] at ht
        subst ht
        refine ⟨fun j hj => ?_, rfl, be 2 n ++ u.take n, by rw [List.append_assoc, List.take_append_drop]; exact hl, fun q' hq' hn => ?_⟩
        · unfold Eqk
          split <;> first | rfl | exact ⟨rfl, rfl, rfl, rfl⟩ | exact absurd rfl hj | trivial
        · have hd : u.take n = q'.data := hq'
          have hdl : q'.data.length = n := by rw [← hd, List.length_take]; omega
          refine ⟨?_, by show be 2 q'.data.length ++ q'.data = _; rw [hdl, hd]⟩
          show meets (spansOf f q') q'.data.length q'.data.length = true
          rw [hdl, ← spans_eq hn]
          exact hm (by decide)
/-- All fields: what is written is read back. -/
theorem rdAll_wr {q : Pk} (hq : q.Ok) (r : List UInt8) : ∀ (fs : List Fd) (done : List Nat) (p : Pk), orderly done fs = true → (∀ x ∈ fs, numOk x = true ∧ datOk x = true ∧ okF q x = true) → (∀ k ∈ done, Eqk k p q) →
    ∃ p', rdAll fs p (fs.flatMap (wrF q) ++ r) = .ok p' r ∧ (∀ k ∈ done, Eqk k p' q) ∧ (∀ x ∈ fs, Eqk (key x) p' q) ∧ (∀ k, (∀ x ∈ fs, k ≠ key x) → Eqk k p' p) ∧ p'.cmd = p.cmd
  | [], done, p, ho, hx, hd => ⟨p, by simp [rdAll], hd, fun x hx => by simp at hx, fun k _ => Eqk.refl k p, rfl⟩
  | x :: fs, done, p, ho, hx, hd => by
    simp only [orderly, Bool.and_eq_true, Bool.not_eq_true', List.all_eq_true] at ho
    obtain ⟨⟨hn, hnk⟩, ho⟩ := ho
    have hkd : key x ∉ done := fun h => by simp [List.contains_iff_mem, h] at hnk
    obtain ⟨x1, x2, x3⟩ := hx x (by simp)
    obtain ⟨p1, h1, h2, h3, h4⟩ := rdF_wr hq x1 x2 x3 (fun k hk => hd k (by simpa [List.contains_iff_mem] using hn k hk)) (fs.flatMap (wrF q) ++ r)
    obtain ⟨p2, g1, g2, g3, g4, g5⟩ := rdAll_wr hq r fs (key x :: done) p1 ho (fun y hy => hx y (by simp [hy])) (fun k hk => by
      rcases List.mem_cons.1 hk with rfl | hk
      · exact h2
      · exact (h3 k (fun e => hkd (e ▸ hk))).trans (hd k hk))
    refine ⟨p2, ?_, fun k hk => g2 k (by simp [hk]), fun y hy => ?_, fun k hk => ?_, g5.trans h4⟩
    · rw [List.flatMap_cons, List.append_assoc, rdAll, h1]
      exact g1
    · rcases List.mem_cons.1 hy with rfl | hy
      · exact g2 _ (by simp)
      · exact g3 y hy
    · exact (g4 k (fun y hy => hk y (by simp [hy]))).trans (h3 k (hk x (by simp)))
/-- All fields: what is read is what was written. -/
theorem rdAll_inv : ∀ (fs : List Fd) (done : List Nat) (p : Pk) (l : List UInt8) (q : Pk) (r : List UInt8), orderly done fs = true → (∀ x ∈ fs, numOk x = true) → rdAll fs p l = .ok q r →
    (∀ k ∈ done, Eqk k q p) ∧ (∀ k, (∀ x ∈ fs, k ≠ key x) → Eqk k q p) ∧ q.cmd = p.cmd ∧ l = fs.flatMap (wrF q) ++ r ∧ ∀ x ∈ fs, okF q x = true
  | [], done, p, l, q, r, ho, hx, h => by
    simp only [rdAll, Res.ok.injEq] at h
    obtain ⟨rfl, rfl⟩ := h
    exact ⟨fun k _ => Eqk.refl k p, fun k _ => Eqk.refl k p, rfl, rfl, fun x hx => by simp at hx⟩
  | x :: fs, done, p, l, q, r, ho, hx, h => by
    simp only [orderly, Bool.and_eq_true, Bool.not_eq_true', List.all_eq_true] at ho
    obtain ⟨⟨hn, hnk⟩, ho⟩ := ho
    have hkd : key x ∉ done := fun h => by simp [List.contains_iff_mem, h] at hnk
    rw [rdAll] at h
    cases e : rdF p x l with
    | bad u => rw [e] at h; cases h
    | ok p1 u =>
      rw [e] at h
      obtain ⟨a1, a2, b, a3, a4⟩ := rdF_inv (hx x (by simp)) e
      obtain ⟨c1, c2, c3, c4, c5⟩ := rdAll_inv fs (key x :: done) p1 u q r ho (fun y hy => hx y (by simp [hy])) h
      have hdone : ∀ k ∈ done, Eqk k q p := fun k hk => (c1 k (by simp [hk])).trans (a1 k (fun e => hkd (e ▸ hk)))
      obtain ⟨d1, d2⟩ := a4 q (c1 (key x) (by simp)).symm (fun k hk => (hdone k (by simpa [List.contains_iff_mem] using hn k hk)).symm)
      refine ⟨hdone, fun k hk => (c2 k (fun y hy => hk y (by simp [hy]))).trans (a1 k (hk x (by simp))), c3.trans a2, ?_, fun y hy => ?_⟩
      · rw [a3, c4, List.flatMap_cons, d2, List.append_assoc]
      · rcases List.mem_cons.1 hy with rfl | hy
        · exact d1
        · exact c5 y hy
/-- What is left when the fields are taken away. -/
theorem clearF_key {p : Pk} {x : Fd} (hx : numOk x = true) (c : Int) : Eqk (key x) (clearF p x) (Pk.zero c) ∧ ∀ k, k ≠ key x → Eqk k (clearF p x) p := by
  cases x with
  | num k f =>
    obtain ⟨h0, h4⟩ : 0 ≤ k ∧ k ≤ 4 := by simpa [numOk] using hx
    rcases (show k = 0 ∨ k = 1 ∨ k = 2 ∨ k = 3 ∨ k = 4 by omega) with rfl | rfl | rfl | rfl | rfl
    all_goals
      refine ⟨rfl, fun j hj => ?_⟩
      unfold Eqk
      split <;> first | rfl | exact ⟨rfl, rfl, rfl, rfl⟩ | exact absurd rfl hj | trivial
  | gens =>
    refine ⟨⟨rfl, rfl, rfl, rfl⟩, fun j hj => ?_⟩
    unfold Eqk
    split <;> first | rfl | exact ⟨rfl, rfl, rfl, rfl⟩ | exact absurd rfl hj | trivial
  | sum f =>
    refine ⟨rfl, fun j hj => ?_⟩
    unfold Eqk
    split <;> first | rfl | exact ⟨rfl, rfl, rfl, rfl⟩ | exact absurd rfl hj | trivial
  | dat f =>
    refine ⟨rfl, fun j hj => ?_⟩
    unfold Eqk
    split <;> first | rfl | exact ⟨rfl, rfl, rfl, rfl⟩ | exact absurd rfl hj | trivial
theorem clear_all (c : Int) : ∀ (fs : List Fd) (p : Pk), (∀ x ∈ fs, numOk x = true) → ∀ k, ((∃ x ∈ fs, k = key x) ∨ Eqk k p (Pk.zero c)) → Eqk k (fs.foldl clearF p) (Pk.zero c)
  | [], p, hx, k, h => by
    rcases h with ⟨x, hx, _⟩ | h
    · simp at hx
    · exact h
  | x :: fs, p, hx, k, h => by
    obtain ⟨a1, a2⟩ := clearF_key (p := p) (hx x (by simp)) c
    refine clear_all c fs (clearF p x) (fun y hy => hx y (by simp [hy])) k ?_
    by_cases e : k = key x
    · subst e; exact .inr a1
    · rcases h with ⟨y, hy, hk⟩ | h
      · rcases List.mem_cons.1 hy with rfl | hy
        · exact absurd hk e
        · exact .inl ⟨y, hy, hk⟩
      · exact .inr ((a2 k e).trans h)
theorem clear_same : ∀ (fs : List Fd) (p : Pk), (∀ x ∈ fs, numOk x = true) → ∀ k, (∀ x ∈ fs, k ≠ key x) → Eqk k (fs.foldl clearF p) p
  | [], p, hx, k, h => Eqk.refl k p
  | x :: fs, p, hx, k, h => (clear_same fs (clearF p x) (fun y hy => hx y (by simp [hy])) k (fun y hy => h y (by simp [hy]))).trans ((clearF_key (p := p) (hx x (by simp)) 0).2 k (h x (by simp)))
theorem plain_iff (p : Pk) (c : Int) : plain p = true ↔ ∀ k, k < 7 → Eqk k p (Pk.zero c) := by
  constructor
  · intro h k hk
    simp only [plain, Bool.and_eq_true, decide_eq_true_eq] at h
    obtain ⟨⟨⟨h0, h1, h2, h3, h4⟩, h5⟩, h6⟩ := h
    rcases (show k = 0 ∨ k = 1 ∨ k = 2 ∨ k = 3 ∨ k = 4 ∨ k = 5 ∨ k = 6 by omega) with rfl | rfl | rfl | rfl | rfl | rfl | rfl
    all_goals assumption
  · intro h
    have h0 : p.id = 0 := h 0 (by decide)
    have h1 : p.block = 0 := h 1 (by decide)
    have h2 : p.epoch = 0 := h 2 (by decide)
    have h3 : p.count = 0 := h 3 (by decide)
    have h4 : p.flags = 0 := h 4 (by decide)
    have h5 : p.g1 = 0 ∧ p.g2 = 0 ∧ p.g3 = 0 ∧ p.g4 = 0 := h 5 (by decide)
    have h6 : p.sum = zeros := h 6 (by decide)
    simp [plain, h0, h1, h2, h3, h4, h5, h6]
theorem dat_key {fs : List Fd} (hx : ∀ x ∈ fs, numOk x = true) : holdsD fs = true ↔ ∃ x ∈ fs, 7 = key x := by
  unfold holdsD
  rw [List.any_eq_true]
  constructor
  · rintro ⟨x, h, hd⟩
    refine ⟨x, h, ?_⟩
    cases x <;> first | rfl | cases hd
  · rintro ⟨x, h, hd⟩
    refine ⟨x, h, ?_⟩
    cases x with
    | num k f =>
      obtain ⟨h0, h4⟩ : 0 ≤ k ∧ k ≤ 4 := by simpa [numOk] using hx _ h
      have : 7 = k.toNat := hd
      omega
    | gens => cases hd
    | sum f => cases hd
    | dat f => rfl
/-- The command's fields. -/
theorem cmd_mem {c : Int} (hk : knownB c = true) : ∃ s, (s, fieldsOf c) ∈ cmdTab := by
  obtain ⟨h1, h2⟩ : 1 ≤ c ∧ c < 26 := by simpa [knownB] using hk
  have hlt : c.toNat < cmdTab.length := by show c.toNat < 26; omega
  refine ⟨(cmdTab[c.toNat]).1, ?_⟩
  unfold fieldsOf
  rw [List.getElem?_eq_getElem hlt]
  exact List.getElem_mem hlt
theorem fields_good {c : Int} (hk : knownB c = true) : orderly [] (fieldsOf c) = true ∧ ∀ x ∈ fieldsOf c, numOk x = true ∧ datOk x = true := by
  obtain ⟨s, h⟩ := cmd_mem hk
  exact ⟨all_orderly (s, fieldsOf c) h, fun x hx => ⟨nums_ok (s, fieldsOf c) h x hx, dats_ok (s, fieldsOf c) h x hx⟩⟩
theorem packErr_ok {p : Pk} (h : packErr p = 0) : knownB p.cmd = true ∧ (∀ x ∈ fieldsOf p.cmd, okF p x = true) ∧ plain ((fieldsOf p.cmd).foldl clearF p) = true ∧ (holdsD (fieldsOf p.cmd) = false → p.data = []) := by
  unfold packErr at h
  split at h
  · cases h
  · rename_i h1
    split at h
    · cases h
    · rename_i h2
      split at h
      · cases h
      · rename_i h3
        split at h
        · cases h
        · rename_i h4
          refine ⟨by simpa using h1, by simpa using h2, by simpa using h3, fun hd => ?_⟩
          cases hdd : p.data with
          | nil => rfl
          | cons d r => exact absurd ⟨by rw [hdd]; simp, hd⟩ h4
theorem cmd_byte {c : Int} (hk : knownB c = true) : ((cmdByte c).toNat : Int) = c := by
  obtain ⟨h1, h2⟩ : 1 ≤ c ∧ c < 26 := by simpa [knownB] using hk
  unfold cmdByte
  rw [UInt8.toNat_ofNat']
  omega
/-- What is written is read back, whatever follows. -/
theorem unpack_packed_more {p : Pk} (hp : p.Ok) (h : packErr p = 0) (r : List UInt8) : rdAll (fieldsOf p.cmd) (Pk.zero p.cmd) ((fieldsOf p.cmd).flatMap (wrF p) ++ r) = .ok p r := by
  obtain ⟨hk, hok, hpl, hdat⟩ := packErr_ok h
  obtain ⟨ho, hx⟩ := fields_good hk
  obtain ⟨p', h1, -, h3, h4, h5⟩ := rdAll_wr hp r (fieldsOf p.cmd) [] (Pk.zero p.cmd) ho (fun x hxx => ⟨(hx x hxx).1, (hx x hxx).2, hok x hxx⟩) (fun k hk => by simp at hk)
  have : p' = p := by
    refine pk_ext h5 fun k hk8 => ?_
    by_cases e : ∃ x ∈ fieldsOf p.cmd, k = key x
    · obtain ⟨x, hxx, rfl⟩ := e
      exact h3 x hxx
    · have hne : ∀ x ∈ fieldsOf p.cmd, k ≠ key x := fun x hxx hk' => e ⟨x, hxx, hk'⟩
      refine (h4 k hne).trans ?_
      by_cases h7 : k = 7
      · subst h7
        have hd : holdsD (fieldsOf p.cmd) = false := by
          cases hh : holdsD (fieldsOf p.cmd)
          · rfl
          · exact absurd ((dat_key (fun x hxx => (hx x hxx).1)).1 hh) e
        exact (hdat hd).symm
      · exact ((clear_same (fieldsOf p.cmd) p (fun x hxx => (hx x hxx).1) k hne).symm.trans ((plain_iff _ p.cmd).1 hpl k (by omega))).symm
  rw [h1, this]
theorem unpack_packed {p : Pk} (hp : p.Ok) (h : packErr p = 0) : unpack (packed p) = (p, 0, 0) := by
  obtain ⟨hk, -⟩ := packErr_ok h
  have hb := cmd_byte hk
  have h1 := unpack_packed_more hp h []
  rw [List.append_nil] at h1
  unfold packed
  rw [unpack_known (by rw [hb]; exact hk), hb, h1]
  rfl
/-- What is read is what was written. -/
theorem rdAll_packed {c : UInt8} {l r : List UInt8} {q : Pk} (hk : knownB c.toNat = true) (h : rdAll (fieldsOf c.toNat) (Pk.zero c.toNat) l = .ok q r) : packErr q = 0 ∧ packed q ++ r = c :: l := by
  obtain ⟨ho, hx⟩ := fields_good hk
  obtain ⟨-, h2, h3, h4, h5⟩ := rdAll_inv _ [] _ _ _ _ ho (fun x hxx => (hx x hxx).1) h
  have h3' : q.cmd = (c.toNat : Int) := h3
  constructor
  · unfold packErr
    rw [h3', if_neg (by rw [hk]; decide), if_neg (by simp only [Bool.not_eq_false, List.all_eq_true]; exact h5), if_neg, if_neg]
    · rintro ⟨hd, hh⟩
      have : Eqk 7 q (Pk.zero c.toNat) := h2 7 (fun x hxx hk' => by
        have := (dat_key (fun x hxx => (hx x hxx).1)).2 ⟨x, hxx, hk'⟩
        rw [hh] at this; cases this)
      have hd0 : q.data = [] := this
      rw [hd0] at hd
      exact absurd hd (by decide)
    · simp only [Bool.not_eq_false]
      refine (plain_iff _ c.toNat).2 fun k hk7 => clear_all c.toNat _ q (fun x hxx => (hx x hxx).1) k ?_
      by_cases e : ∃ x ∈ fieldsOf c.toNat, k = key x
      · exact .inl e
      · exact .inr (h2 k fun x hxx hk' => e ⟨x, hxx, hk'⟩)
  · unfold packed
    rw [h3', List.cons_append, ← h4]
    congr 1
    unfold cmdByte
    apply UInt8.toNat_inj.1
    rw [UInt8.toNat_ofNat']
    have := c.toNat_lt
    omega
theorem packed_unpack {b : List UInt8} (h : (unpack b).2.2 = 0) : packErr (unpack b).1 = 0 ∧ packed (unpack b).1 = b ∧ (unpack b).2.1 = 0 := by
  cases b with
  | nil => cases h
  | cons c l =>
    cases hk : knownB c.toNat with
    | false =>
      have e : unpack (c :: l) = (Pk.zero 0, 0, 74) := by
        show (if knownB c.toNat = false then _ else _) = _
        rw [if_pos hk]
      rw [e] at h; cases h
    | true =>
      rw [unpack_known hk] at h ⊢
      cases e : rdAll (fieldsOf c.toNat) (Pk.zero c.toNat) l with
      | ok q r =>
        rw [e] at h
        cases r with
        | nil =>
          obtain ⟨h1, h2⟩ := rdAll_packed hk e
          exact ⟨h1, by rw [List.append_nil] at h2; exact h2, rfl⟩
        | cons d r => cases h
      | bad r => rw [e] at h; cases r <;> cases h
theorem unpack_err {b : List UInt8} (h : (unpack b).2.2 ≠ 0) : (unpack b).1 = Pk.zero 0 := by
  cases b with
  | nil => rfl
  | cons c l =>
    cases hk : knownB c.toNat with
    | false =>
      show (if knownB c.toNat = false then _ else _ : Pk × Nat × Int).1 = _
      rw [if_pos hk]
    | true =>
      rw [unpack_known hk] at h ⊢
      cases e : rdAll (fieldsOf c.toNat) (Pk.zero c.toNat) l with
      | ok q r =>
        rw [e] at h
        cases r with
        | nil => exact absurd rfl h
        | cons d r => rfl
      | bad r => cases r <;> rfl
end Wi
end Go.Proofs.YtbgfoobcpacfeaaDoor

/- The cells of an argument, leaf by leaf, with the bound of what its slices weigh; slices of bytes among them. -/
namespace Go.Proofs.YtbgfoobcpacfeaaDoor
open Go.ChangeShapes Go.WideShapes Go.ChangeAt Go.RowKit
set_option maxRecDepth 100000
set_option linter.unusedVariables false
set_option linter.unusedSimpArgs false

section
variable {H : Type} {enc : TypeId × Value → H} {P : Program} {w : World} {base : Nat} {spare : Nat → Bool} {held : Bool} {R : Nat}

/-- A cell is what its leaf says; its slices weigh at most R. -/
def LeafW (enc : TypeId × Value → H) (P : Program) (w : World) (base : Nat) (spare : Nat → Bool) (held : Bool) (R : Nat) : Leaf → Value → Prop
  | .int k, v => ∃ n, v = .int k n ∧ (Lit.int k n).wf = true
  | .bool, v => ∃ b, v = .bool b
  | .str, v => ∃ s, v = .string s ∧ s.size ≤ maxLen
  | .other t, v => ∃ fuel x, DataW.trod enc P w base spare held fuel t [v] = some x ∧ ∀ n ∈ x.1.weights P t, n ≤ R

inductive LeavesW (enc : TypeId × Value → H) (P : Program) (w : World) (base : Nat) (spare : Nat → Bool) (held : Bool) (R : Nat) : List Leaf → List Value → Prop
  | nil : LeavesW enc P w base spare held R [] []
  | cons {l : Leaf} {v : Value} {ls : List Leaf} {vs : List Value} : LeafW enc P w base spare held R l v → LeavesW enc P w base spare held R ls vs → LeavesW enc P w base spare held R (l :: ls) (v :: vs)

theorem LeavesW.append {a b : List Leaf} {u v : List Value} (h : LeavesW enc P w base spare held R a u) (k : LeavesW enc P w base spare held R b v) : LeavesW enc P w base spare held R (a ++ b) (u ++ v) := by
  induction h with
  | nil => exact k
  | cons h1 _ ih => exact .cons h1 ih
theorem LeavesW.uncons {l : Leaf} {ls : List Leaf} {cs : List Value} (h : LeavesW enc P w base spare held R (l :: ls) cs) : ∃ v vs, cs = v :: vs ∧ LeafW enc P w base spare held R l v ∧ LeavesW enc P w base spare held R ls vs := by
  cases h with
  | cons a b => exact ⟨_, _, rfl, a, b⟩
theorem LeavesW.unnil {cs : List Value} (h : LeavesW enc P w base spare held R [] cs) : cs = [] := by cases h; rfl
theorem LeavesW.int {k : IntKind} {ls : List Leaf} {cs : List Value} (h : LeavesW enc P w base spare held R (.int k :: ls) cs) : ∃ n vs, cs = .int k n :: vs ∧ (Lit.int k n).wf = true ∧ LeavesW enc P w base spare held R ls vs := by
  obtain ⟨v, vs, rfl, ⟨n, rfl, hn⟩, r⟩ := h.uncons
  exact ⟨n, vs, rfl, hn, r⟩
theorem LeavesW.bool {ls : List Leaf} {cs : List Value} (h : LeavesW enc P w base spare held R (.bool :: ls) cs) : ∃ b vs, cs = .bool b :: vs ∧ LeavesW enc P w base spare held R ls vs := by
  obtain ⟨v, vs, rfl, ⟨n, rfl⟩, r⟩ := h.uncons
  exact ⟨n, vs, rfl, r⟩
theorem LeavesW.other {t : TypeId} {ls : List Leaf} {cs : List Value} (h : LeavesW enc P w base spare held R (.other t :: ls) cs) : ∃ v vs, cs = v :: vs ∧ (∃ fuel x, DataW.trod enc P w base spare held fuel t [v] = some x ∧ ∀ n ∈ x.1.weights P t, n ≤ R) ∧ LeavesW enc P w base spare held R ls vs := by
  obtain ⟨v, vs, rfl, hv, r⟩ := h.uncons
  exact ⟨v, vs, rfl, hv, r⟩

theorem weights_mem_all {e : TypeId} : ∀ {ds : List (DataW H)} {j : Nat} {d : DataW H}, ds[j]? = some d → ∀ n ∈ d.weights P e, n ∈ DataW.weightsAll P e ds
  | d0 :: ds, 0, d, hd, n, hn => by
    simp only [List.getElem?_cons_zero, Option.some.injEq] at hd
    subst hd
    simp only [DataW.weightsAll, List.mem_append]
    exact Or.inl hn
  | d0 :: ds, j + 1, d, hd, n, hn => by
    simp only [List.getElem?_cons_succ] at hd
    simp only [DataW.weightsAll, List.mem_append]
    exact Or.inr (weights_mem_all hd n hn)
  | [], _, _, hd, _, _ => by simp at hd

mutual
theorem leaves_okW : ∀ (n : Nat) (t : TypeId) (ls : List Leaf) (fuel : Nat) (cs : List Value) (x : DataW H × List MemPlace), leaves P n t = some ls →
    DataW.trod enc P w base spare held fuel t cs = some x → (∀ n ∈ x.1.weights P t, n ≤ R) → LeavesW enc P w base spare held R ls cs
  | 0, _, _, _, _, _, h, _, _ => by simp [leaves] at h
  | n + 1, t, ls, fuel, cs, x, h, ht, hw => by
    unfold leaves at h
    split at h
    · rename_i hu
      cases h
      obtain ⟨b, rfl, _⟩ := DataW.trod_bool hu ht
      exact .cons ⟨b, rfl⟩ .nil
    · rename_i k hu
      cases h
      obtain ⟨m, rfl, _, hwf⟩ := DataW.trod_int hu ht
      exact .cons ⟨m, rfl, hwf⟩ .nil
    · rename_i hu
      cases h
      obtain ⟨s, rfl, _, hwf⟩ := DataW.trod_string hu ht
      exact .cons ⟨s, rfl, hwf⟩ .nil
    · rename_i fs hu
      split at h
      · rename_i hc
        simp only [Bool.and_eq_true, beq_iff_eq] at hc
        obtain ⟨xs, m, rfl, rfl, hl, hxl, hf⟩ := DataW.trod_struct hu ht
        refine leavesAll_okW n fs.toList ls m cs 0 h hc.1 ?_ ?_
        · rw [Nat.zero_add, hc.2]; exact hl
        · intro i f hif
          have hi : fs[i]? = some f := by simpa using hif
          have hlt : i < xs.length := by
            have := (Array.getElem?_eq_some_iff.1 hi).1
            omega
          refine ⟨xs[i], by rw [hf i f hi]; exact List.getElem?_eq_getElem hlt, fun q hq => hw q ?_⟩
          simp only [DataW.weights, hu]
          exact DataW.weights_mem_each (j := i) (t := f.type) (d := xs[i].1) (by rw [List.getElem?_map, hif]; rfl) (by rw [List.getElem?_map, List.getElem?_eq_getElem hlt]; rfl) q hq
      · cases h
    · rename_i m e hu
      split at h
      · rename_i hc
        simp only [beq_iff_eq] at hc
        cases hle : leaves P n e with
        | none => rw [hle] at h; cases h
        | some l =>
          rw [hle] at h
          simp only [Option.map_some, Option.some.injEq] at h
          subst h
          obtain ⟨xs, fu, rfl, hx1, hlen, hn3, hel⟩ := DataW.trod_array hu ht
          have key : ∀ k, k ≤ m → LeavesW enc P w base spare held R (List.replicate k l).flatten (cs.take (k * P.cellsOf e)) := by
            intro k
            induction k with
            | zero => intro _; simp; exact .nil
            | succ k ih =>
              intro hk
              have h1 := ih (by omega)
              have hk' : k < xs.length := by omega
              have h2 := hel k (by omega)
              rw [List.getElem?_eq_getElem hk'] at h2
              have h3 := leaves_okW n e l fu _ _ hle h2 (fun q hq => hw q (by
                rw [hx1]
                simp only [DataW.weights, hu]
                exact weights_mem_all (j := k) (d := xs[k].1) (by rw [List.getElem?_map, List.getElem?_eq_getElem hk']; rfl) q hq))
              have e1 : (List.replicate (k + 1) l).flatten = (List.replicate k l).flatten ++ l := by
                rw [List.replicate_succ', List.flatten_append]; simp
              have e2 : cs.take ((k + 1) * P.cellsOf e) = cs.take (k * P.cellsOf e) ++ (cs.drop (k * P.cellsOf e)).take (P.cellsOf e) := by
                rw [Nat.succ_mul, List.take_add]
              rw [e1, e2]
              exact h1.append h3
          have hm := key m (Nat.le_refl _)
          rw [hc, ← hlen, List.take_length] at hm
          exact hm
      · cases h
    · rename_i e hu
      cases h
      rcases trod_length ht with ⟨v, rfl⟩ | ⟨fs, h2⟩ | ⟨m, e', h2⟩
      · exact .cons ⟨fuel, x, ht, hw⟩ .nil
      · rw [hu] at h2; cases h2
      · rw [hu] at h2; cases h2
    · rename_i e hu
      cases h
      rcases trod_length ht with ⟨v, rfl⟩ | ⟨fs, h2⟩ | ⟨m, e', h2⟩
      · exact .cons ⟨fuel, x, ht, hw⟩ .nil
      · rw [hu] at h2; cases h2
      · rw [hu] at h2; cases h2
    · cases h
theorem leavesAll_okW : ∀ (n : Nat) (fs : List Field) (ls : List Leaf) (fuel : Nat) (cs : List Value) (at_ : Nat), leavesAll P n fs = some ls → fieldsLie P fs at_ = true → cs.length = at_ + fieldsSum P fs →
    (∀ (i : Nat) (f : Field), fs[i]? = some f → ∃ x, DataW.trod enc P w base spare held fuel f.type ((cs.drop f.offset).take (P.cellsOf f.type)) = some x ∧ ∀ n ∈ x.1.weights P f.type, n ≤ R) → LeavesW enc P w base spare held R ls (cs.drop at_)
  | 0, _, _, _, _, _, h, _, _, _ => by simp [leavesAll] at h
  | n + 1, [], ls, fuel, cs, at_, h, _, hs, _ => by
    simp only [leavesAll, Option.some.injEq] at h
    subst h
    rw [List.drop_of_length_le (by simp [fieldsSum] at hs; omega)]
    exact .nil
  | n + 1, f :: r, ls, fuel, cs, at_, h, hlie, hs, hf => by
    simp only [leavesAll] at h
    split at h
    · rename_i a b ha hb
      cases h
      simp only [fieldsLie, Bool.and_eq_true, beq_iff_eq] at hlie
      obtain ⟨x, hx, hwx⟩ := hf 0 f rfl
      rw [hlie.1] at hx
      have h1 := leaves_okW n f.type a fuel _ x ha hx hwx
      have h2 := leavesAll_okW n r b fuel cs (at_ + P.cellsOf f.type) hb hlie.2 (by simp [fieldsSum] at hs; omega) (fun i g hg => hf (i + 1) g (by simpa using hg))
      have e : cs.drop at_ = (cs.drop at_).take (P.cellsOf f.type) ++ cs.drop (at_ + P.cellsOf f.type) := by
        rw [← List.drop_drop, List.take_append_drop]
      rw [e]
      exact h1.append h2
    · cases h
end

/-- An argument that is a struct or an array: its cells, leaf by leaf. -/
theorem open_leavesW {W : World} {b : Nat} {t : TypeId} {v : Value} {d : DataW H} {ps : List MemPlace} {ls : List Leaf} {n : Nat} (hls : leaves P n t = some ls)
    (hst : (match P.underlying t with | some (.struct _) | some (.array _ _) => true | _ => false) = true)
    (hv : Value.okWide P W .any b t v) (h : DataW.Trod enc P W base spare held t v d ps) (hw : ∀ n ∈ d.weights P t, n ≤ R) : ∃ cs, v = .agg cs.toArray ∧ LeavesW enc P W base spare held R ls cs := by
  obtain ⟨fuel, hf⟩ := h
  unfold Value.okWide at hv
  split at hst
  · rename_i fs hu
    rw [hu] at hv
    obtain ⟨cs, rfl, _, _⟩ := hv
    exact ⟨cs.toList, by simp, leaves_okW n t ls fuel _ _ hls hf hw⟩
  · rename_i m e hu
    rw [hu] at hv
    obtain ⟨cs, rfl, _, _⟩ := hv
    exact ⟨cs.toList, by simp, leaves_okW n t ls fuel _ _ hls hf hw⟩
  · cases hst
end

theorem by_u8 : Tryd.prog.underlying 5 = some (.int .u8) := by kernel_rfl
theorem by_c1 : Tryd.prog.cellsOf 5 = 1 := by kernel_rfl
theorem by_b1 : Tryd.prog.bytesOf 5 = 1 := by kernel_rfl

theorem u8_of_wf {n : Int} (h : (Lit.int .u8 n).wf = true) : ∃ b : UInt8, Value.int .u8 n = bv b := by
  have h2 : IntKind.u8.min ≤ n ∧ n ≤ IntKind.u8.max := by simpa [Lit.wf] using h
  have hm : IntKind.u8.min = 0 := by decide
  have hM : IntKind.u8.max = 255 := by decide
  refine ⟨UInt8.ofNat n.toNat, ?_⟩
  rw [bv_of_int]
  rw [hm, hM] at h2
  have : ((n.toNat : Nat) : Int) = n := Int.toNat_of_nonneg h2.1
  rw [this, show n % 256 = n by omega]

section
variable {H : Type} {enc : TypeId × Value → H} {W : World} {base : Nat} {spare : Nat → Bool} {held : Bool} {R : Nat}
/-- A slice of bytes that came in reads as a list. -/
theorem rb_of_trod {fuel : Nat} {v : Value} {x : DataW H × List MemPlace} (h : DataW.trod enc Tryd.prog W base spare held fuel 32 [v] = some x) (hw : ∀ n ∈ x.1.weights Tryd.prog 32, n ≤ reachBytes) :
    ∃ l, RB W v l ∧ (∀ g, v.ownBlock = some g → g < W.heap.size ∨ l = []) ∧ l.length ≤ 140737488351232 := by
  rcases Go.Deep.open_slice1 by_tu by_c1 h with ⟨hcs, rfl⟩ | ⟨a, len, cap, m, n, V, D, Pl, hcs, hb, hl, hm, hmm, rfl, hx⟩
  · cases hcs
    exact ⟨[], RB.nil_ W, fun g hg => .inr rfl, by simp⟩
  · simp only [List.cons.injEq, and_true] at hcs
    subst hcs
    have hlm : len ≤ m := by rw [hmm]; split <;> omega
    have hlen : len ≤ 140737488351232 := by
      have := hw ((len + (m - len)) * Tryd.prog.bytesOf 5) (by simp [DataW.weights, by_tu])
      rw [by_b1] at this
      simp only [reachBytes] at this
      omega
    have hB : ∀ i, i < len → ∃ b : UInt8, V i = bv b := fun i hi => by
      obtain ⟨_, ht⟩ := hx i (by omega)
      obtain ⟨k, e, _, hwf⟩ := DataW.trod_int by_u8 ht
      simp only [List.cons.injEq, and_true] at e
      obtain ⟨b, hb⟩ := u8_of_wf hwf
      exact ⟨b, e.trans hb⟩
    obtain ⟨bs, hbs⟩ := Go.Deep.choose_lt (α := UInt8) (p := fun i b => V i = bv b) hB
    have hll : ((List.range len).map bs).length = len := by simp
    have hcellb : ∀ i b, ((List.range len).map bs)[i]? = some b → ∃ g o, some a = some (⟨g, o, none⟩ : Addr) ∧ g < W.heap.size ∧ W.cell? ⟨g, o + i, none⟩ = some (bv b) := fun i b hi => by
      have hil : i < len := by have := (List.getElem?_eq_some_iff.1 hi).1; simpa using this
      have hbi : bs i = b := by
        rw [List.getElem?_map, List.getElem?_range hil] at hi
        simpa using hi
      obtain ⟨hc, _⟩ := hx i (by omega)
      have hsp := World.cell?_spot (hx 0 (by omega)).1
      obtain ⟨g, off, spot⟩ := a
      have hspot : spot = none := by simpa [Addr.add] using hsp
      subst hspot
      rw [add_flat] at hc
      refine ⟨g, off, rfl, cell_lt hc, ?_⟩
      rw [hc, hbs i hil, hbi]
    refine ⟨(List.range len).map bs, ⟨some a, cap, by rw [hll], by rw [hll]; exact hl, hm, by rw [hll]; omega, hcellb⟩, fun g hg => ?_, by rw [hll]; exact hlen⟩
    by_cases h0 : len = 0
    · exact .inr (by rw [h0]; rfl)
    · obtain ⟨g', o, e, hlt, _⟩ := hcellb 0 (bs 0) (by rw [List.getElem?_map, List.getElem?_range (by omega)]; rfl)
      injection e with e
      subst e
      simp only [Value.ownBlock, Option.some.injEq] at hg
      subst hg
      exact .inl hlt
end

section
variable {H : Type} {enc : TypeId × Value → H} {P : Program} {W : World} {base : Nat} {spare : Nat → Bool} {held : Bool}
theorem weights_each {ts : List TypeId} {ds : List (DataW H)} (h : (DataW.weightsEach P ts ds).all (· ≤ reachBytes) = true) {j : Nat} {t : TypeId} {d : DataW H} (ht : ts[j]? = some t) (hd : ds[j]? = some d) : ∀ n ∈ d.weights P t, n ≤ reachBytes :=
  fun n hn => by simpa using List.all_eq_true.1 h _ (DataW.weights_mem_each ht hd n hn)
theorem trodAll_one {t : TypeId} {args : Array Value} {ds : List (DataW H)} {ps : List MemPlace} (h : DataW.TrodAll enc P W base spare held [t] args.toList ds ps) :
    ∃ v d p, args = #[v] ∧ ds = [d] ∧ DataW.Trod enc P W base spare held t v d p := by
  obtain ⟨v, vs, d, ds', p, q, hargs, rfl, rfl, hd, hrest⟩ := trodAll_cons h
  obtain ⟨rfl, rfl, rfl⟩ := trodAll_nil hrest
  exact ⟨v, d, p, by cases args; simp_all, rfl, hd⟩
theorem trodAll_two {t t' : TypeId} {args : Array Value} {ds : List (DataW H)} {ps : List MemPlace} (h : DataW.TrodAll enc P W base spare held [t, t'] args.toList ds ps) :
    ∃ v v' d d' p p', args = #[v, v'] ∧ ds = [d, d'] ∧ DataW.Trod enc P W base spare held t v d p ∧ DataW.Trod enc P W base spare held t' v' d' p' := by
  obtain ⟨v, vs, d, ds', p, q, hargs, rfl, rfl, hd, hrest⟩ := trodAll_cons h
  obtain ⟨v', vs', d', ds'', p', q', rfl, rfl, rfl, hd', hrest'⟩ := trodAll_cons hrest
  obtain ⟨rfl, rfl, rfl⟩ := trodAll_nil hrest'
  exact ⟨v, v', d, d', p, p', by cases args; simp_all, rfl, hd, hd'⟩
theorem trodAll_three {t t' t'' : TypeId} {args : Array Value} {ds : List (DataW H)} {ps : List MemPlace} (h : DataW.TrodAll enc P W base spare held [t, t', t''] args.toList ds ps) :
    ∃ v v' v'' d d' d'' p p' p'', args = #[v, v', v''] ∧ ds = [d, d', d''] ∧ DataW.Trod enc P W base spare held t v d p ∧ DataW.Trod enc P W base spare held t' v' d' p' ∧ DataW.Trod enc P W base spare held t'' v'' d'' p'' := by
  obtain ⟨v, vs, d, ds', p, q, hargs, rfl, rfl, hd, hrest⟩ := trodAll_cons h
  obtain ⟨v', vs', d', ds'', p', q', rfl, rfl, rfl, hd', hrest'⟩ := trodAll_cons hrest
  obtain ⟨v'', vs'', d'', ds''', p'', q'', rfl, rfl, rfl, hd'', hrest''⟩ := trodAll_cons hrest'
  obtain ⟨rfl, rfl, rfl⟩ := trodAll_nil hrest''
  exact ⟨v, v', v'', d, d', d'', p, p', p'', by cases args; simp_all, rfl, hd, hd', hd''⟩
end
theorem u32_wf {n : Int} (h : (Lit.int .u32 n).wf = true) : ∃ m : Nat, n = (m : Int) ∧ m < 4294967296 := by
  have h2 : IntKind.u32.min ≤ n ∧ n ≤ IntKind.u32.max := by simpa [Lit.wf] using h
  have hm : IntKind.u32.min = 0 := by decide
  have hM : IntKind.u32.max = 4294967295 := by decide
  rw [hm, hM] at h2
  exact ⟨n.toNat, (Int.toNat_of_nonneg h2.1).symm, by omega⟩
theorem u64_wf {n : Int} (h : (Lit.int .u64 n).wf = true) : ∃ m : Nat, n = (m : Int) ∧ m < 18446744073709551616 := by
  have h2 : IntKind.u64.min ≤ n ∧ n ≤ IntKind.u64.max := by simpa [Lit.wf] using h
  have hm : IntKind.u64.min = 0 := by decide
  have hM : IntKind.u64.max = 18446744073709551615 := by decide
  rw [hm, hM] at h2
  exact ⟨n.toNat, (Int.toNat_of_nonneg h2.1).symm, by omega⟩
section
open Go.ChangeShapes
variable {H : Type} {enc : TypeId × Value → H} {W : World} {b base : Nat} {spare : Nat → Bool} {held : Bool}
/-- A slice of bytes that came in. -/
theorem open_bytes {v : Value} {d : DataW H} {ps : List MemPlace} (hv : Value.okWide Tryd.prog W .any b 32 v) (h : DataW.Trod enc Tryd.prog W base spare held 32 v d ps) (hw : ∀ n ∈ d.weights Tryd.prog 32, n ≤ reachBytes) :
    ∃ l, RB W v l ∧ l.length ≤ 140737488351232 := by
  obtain ⟨pa, n, cp, rfl⟩ := Go.WideShapes.okWide_slice by_tu hv
  obtain ⟨fuel, hf⟩ := h
  obtain ⟨l, hr, _, hlen⟩ := rb_of_trod hf hw
  exact ⟨l, hr, hlen⟩
end
end Go.Proofs.YtbgfoobcpacfeaaDoor

/- A packet that came in; the world's sizes; what the cards of the packets share. -/
namespace Go.Proofs.YtbgfoobcpacfeaaDoor
open Go.RowKit Go.ChangeShapes Go.WideShapes Go.ChangeAt
set_option maxRecDepth 100000
set_option linter.unusedVariables false
set_option linter.unusedSimpArgs false

theorem pk_leaves : leaves Tryd.prog 20 34 = some (.int .i64 :: .int .u32 :: .int .u32 :: .int .u32 :: .int .u32 :: .int .u32 :: .int .u64 :: .int .u64 :: .int .u64 :: .int .u64 :: (List.replicate 32 (.int .u8) ++ [.other 32])) := by kernel_rfl
theorem u8_wf' {n : Int} (h : (Lit.int .u8 n).wf = true) : ∃ b : UInt8, Value.int .u8 n = bv b := by
  have h2 : IntKind.u8.min ≤ n ∧ n ≤ IntKind.u8.max := by simpa [Lit.wf] using h
  have hm : IntKind.u8.min = 0 := by decide
  have hM : IntKind.u8.max = 255 := by decide
  rw [hm, hM] at h2
  refine ⟨UInt8.ofNat n.toNat, ?_⟩
  show Value.int .u8 n = .int .u8 ((UInt8.ofNat n.toNat).toNat : Int)
  rw [UInt8.toNat_ofNat']
  congr 1
  omega
section
variable {H : Type} {enc : TypeId × Value → H} {W : World} {b base : Nat} {spare : Nat → Bool} {held : Bool} {R : Nat}
theorem LeavesW.bytes {ls : List Leaf} : ∀ (n : Nat) (cs : List Value), LeavesW enc Tryd.prog W base spare held R (List.replicate n (.int .u8) ++ ls) cs → ∃ (s : List UInt8) (r : List Value), s.length = n ∧ cs = s.map bv ++ r ∧ LeavesW enc Tryd.prog W base spare held R ls r
  | 0, cs, h => ⟨[], cs, rfl, rfl, h⟩
  | n + 1, cs, h => by
    rw [List.replicate_succ, List.cons_append] at h
    obtain ⟨m, vs, rfl, hm, h'⟩ := h.int
    obtain ⟨x, hx⟩ := u8_wf' hm
    obtain ⟨s, r, hs, rfl, hr⟩ := LeavesW.bytes n vs h'
    exact ⟨x :: s, r, by simp [hs], by rw [hx]; rfl, hr⟩
/-- A packet that came in. -/
theorem open_packet {v : Value} {d : DataW H} {ps : List MemPlace} (hv : Value.okWide Tryd.prog W .any b 34 v) (h : DataW.Trod enc Tryd.prog W base spare held 34 v d ps) (hw : ∀ n ∈ d.weights Tryd.prog 34, n ≤ reachBytes) :
    ∃ (p : Wi.Pk) (pv : Value), v = .agg (pkL p pv).toArray ∧ p.Ok ∧ RB W pv p.data := by
  obtain ⟨cs, rfl, hl⟩ := open_leavesW (R := reachBytes) pk_leaves (by kernel_rfl) hv h hw
  obtain ⟨c, _, rfl, _, hl⟩ := hl.int
  obtain ⟨n0, _, rfl, h0, hl⟩ := hl.int
  obtain ⟨n1, _, rfl, h1, hl⟩ := hl.int
  obtain ⟨n2, _, rfl, h2, hl⟩ := hl.int
  obtain ⟨n3, _, rfl, h3, hl⟩ := hl.int
  obtain ⟨n4, _, rfl, h4, hl⟩ := hl.int
  obtain ⟨g1, _, rfl, k1, hl⟩ := hl.int
  obtain ⟨g2, _, rfl, k2, hl⟩ := hl.int
  obtain ⟨g3, _, rfl, k3, hl⟩ := hl.int
  obtain ⟨g4, _, rfl, k4, hl⟩ := hl.int
  obtain ⟨s, r, hs, rfl, hl2⟩ := LeavesW.bytes 32 _ hl
  obtain ⟨vp, _, rfl, ⟨fuel, x, hx, hwx⟩, hl3⟩ := hl2.other
  obtain rfl := hl3.unnil
  obtain ⟨n0, rfl, h0'⟩ := u32_wf h0
  obtain ⟨n1, rfl, h1'⟩ := u32_wf h1
  obtain ⟨n2, rfl, h2'⟩ := u32_wf h2
  obtain ⟨n3, rfl, h3'⟩ := u32_wf h3
  obtain ⟨n4, rfl, h4'⟩ := u32_wf h4
  obtain ⟨g1, rfl, k1'⟩ := u64_wf k1
  obtain ⟨g2, rfl, k2'⟩ := u64_wf k2
  obtain ⟨g3, rfl, k3'⟩ := u64_wf k3
  obtain ⟨g4, rfl, k4'⟩ := u64_wf k4
  obtain ⟨l, hr, _, hlen⟩ := rb_of_trod hx hwx
  exact ⟨⟨c, n0, n1, n2, n3, n4, g1, g2, g3, g4, s, l⟩, vp, rfl, ⟨h0', h1', h2', h3', h4', k1', k2', k3', k4', hs, hlen⟩, hr⟩
end
/-- The world that a row lays holds the sizes. -/
theorem szs_of {W : World} (h : laidMetH Tryd.prog [("replica/wire.blockSizes", Rows.laid_replica_wire_blockSizes)] W) : Szs W := by
  obtain ⟨ps, h⟩ := laid_of (by kernel_rfl) h
  exact (laid_szs h).1
theorem door_met (os : Os) (args : Array Value) : laidMetH Tryd.prog [("replica/wire.blockSizes", Rows.laid_replica_wire_blockSizes)] ((World.doorLaid Tryd.prog 400 os).forCall (fun _ _ => 0) ⟨#[], args, []⟩).memory :=
  laidMetH_of_parts3 (fuel := 8) (laidMet_of_run' 8 (by kernel_rfl) (by kernel_rfl)) (by kernel_rfl) (by kernel_rfl)
/-- The zero packet, as an argument. -/
abbrev zeroP : Value := .agg (pkL (Wi.Pk.zero 0) (.slice none 0 0)).toArray
end Go.Proofs.YtbgfoobcpacfeaaDoor
