/- The statement WirePrefix: the walk. (Printed by wip/w7gen/mkprefix.py.) -/
import Derived.Test.YtbgfoobcpacfeaaDoorPk8
import Derived.Test.YtbgfoobcpacfeaaDoorWPl4
namespace Go.Proofs.YtbgfoobcpacfeaaDoor
open Go.RowKit
set_option maxRecDepth 100000
set_option linter.unusedVariables false
set_option linter.unusedSimpArgs false

theorem exec_sliceAt {P : Program} {ρ : Operand → Value} {o : Oper} {t : TypeId} {x : Operand} {lo hi mx : Option Operand} {w : World} {v : Value} (ho : o.op = .slice t x lo hi mx) (h : (Instr.sliceAt t (ρ x) (lo.map ρ) (hi.map ρ) (mx.map ρ)).run P w = .ok v w) : (execOp ρ o).run P w = .ok (.value v) w := by
  unfold execOp
  rw [ho]
  simp [h]
theorem slice_front (w : World) (g o n c k : Nat) (hk : k ≤ c) : (Instr.sliceAt 32 (.slice (some ⟨g, o, none⟩) n c) none (some (.int .i64 k)) none).run Tryd.prog w = .ok (.slice (some ⟨g, o, none⟩) k c) w := by
  have h0 : (0 : Int) ≤ (k : Int) := Int.natCast_nonneg k
  have h1 : (k : Int) ≤ (c : Int) := by exact_mod_cast hk
  go_simp

set_option maxHeartbeats 8000000 in
theorem wirePrefix_calls {w : World} {pv mv : Value} {p : Wi.Pk} {more : List UInt8} (nn : Int) (hp : p.Ok) (hr : RB w pv p.data) (hm : RB w mv more) (hml : more.length ≤ 140737488351232) (hS : Szs w) : Pur Tryd.prog 8 #[.agg (pkL p pv).toArray, .int .i64 nn, mv] w (.bool true) := by
  unfold Pur
  have hP1 : PkAt (w.alloc (.cells (pkL p pv).toArray 34)) w.heap.size p pv := heap_new w _ _ rfl
  have hb1 := below_alloc1 w (.cells (pkL p pv).toArray 34)
  have hr1 := hr.below hb1
  have hm1 := hm.below hb1
  have hS1 := hS.below hb1
  have hS0 := hS.1
  generalize hca : (pkL p pv).toArray = ca at hP1 hb1 hr1 hm1 hS1 ⊢
  go_enter Tryd.func8, Tryd.ntmps8
  go_upto_region 1 with fail
  rename_i hnext
  rw [← hca] at *
  generalize w.alloc (.cells (pkL p pv).toArray 34) = w1 at *
  generalize hA : w.heap.size = A at *
  refine wp_region_lit ?_
  refine Og.st_start (n := 72) rfl fun a hF => ?_
  refine Og.st_same (.agg (pkL p pv).toArray) hF rfl rfl (by decide) (Og.exec_load rfl (load_pk hP1 hp)) ?_
  clear hF a; intro a hF
  refine Og.st_call (f := 28) (args := #[.agg (pkL p pv).toArray]) hF rfl rfl (by decide) ((Og.exec_call rfl ownP_enter rfl _).trans (by kernel_rfl)) ((ownP_calls hp hr1).mono ?_)
  rintro e w2 ⟨ov, rfl, hov, hb2⟩
  refine ⟨_, rfl, ?_⟩
  clear hF a; intro a hF
  have hm2 := hm1.below hb2
  have hS2 := hS1.below hb2
  refine st_enc (p := p) (pv := ov) 17 18 15 19 20 7 8 hF hp hov hS2 rfl ?_
  clear hF a; intro a w3 v T hF ho hb3
  have hm := hm2.below hb3
  have hS := hS2.below hb3
  have hA1 : A ≤ w1.heap.size := by rw [← hA]; exact hb1.size
  have hb := hb1.trans ((hb2.mono hA1).trans (hb3.mono (Nat.le_trans hA1 hb2.size)))
  have hAw : A ≤ w3.heap.size := by rw [← hA]; exact hb.size
  have ho := ho.more (Nat.le_trans hA1 hb2.size)
  obtain ⟨U0, rfl⟩ := Og.Fr.lit_ex hF (fun U => ⟨#[U 0, .int .i64 nn, mv, U 3, U 4, U 5, .bool false, v, .int .i64 (Wi.packErr p), U 9, U 10, U 11, U 12, U 13, U 14, U 15, U 16, U 17, U 18, U 19, U 20, U 21, U 22, U 23, U 24, U 25, U 26, U 27, U 28, U 29, U 30, U 31, U 32, U 33, U 34, U 35, U 36, U 37, U 38, U 39, U 40, U 41, U 42, U 43, U 44, U 45, U 46, U 47, U 48, U 49, U 50, U 51, U 52, U 53, U 54, U 55, U 56, U 57, U 58, U 59, U 60, U 61, U 62, U 63, U 64, U 65, U 66, U 67, U 68, U 69, U 70, U 71], []⟩) (by kernel_rfl)
  clear hF hP1 hr1 hS1 hS2 hb1 hb2 hb3 hm1 hm2 hA1
  refine hnext _ _ ?_
  clear hnext
  cases he : ((Wi.packErr p) != 0)
  · have he0 : Wi.packErr p = 0 := by simpa using he
    have hpo : Wi.packOut p = Wi.packed p := by
      unfold Wi.packOut
      rw [if_pos he0]
    rw [he0]
    clear he
    have Hm := Lib.hid hm
    have HS := Lib.hid hS
    have Ho := Lib.hid ho
    clear hm hS ho
    go_wp2_with fail
    refine (example_calls HS.out).out.mono ?_
    rintro e wq ⟨rfl, hb4⟩
    have hm := Hm.out.below hb4
    have hS := HS.out.below hb4
    have hV := Ho.out.below hb4
    have hSq : 3 < wq.heap.size := hS.1
    have hb := hb.trans (hb4.mono hAw)
    have hAw := Nat.le_trans hAw hb4.size
    clear Hm HS Ho hb4
    have hVlt : ∀ g, v.ownBlock = some g → g < wq.heap.size := fun g e => (hV.lt g e).2
    obtain ⟨g, cap, hvf, hgA, hgl, hcap, hcm, -, -⟩ := hV.form (by rw [hpo]; unfold Wi.packed; simp)
    obtain ⟨mq, mc, hmf⟩ := hm.form
    obtain ⟨bl, hbl⟩ : ∃ bl, bl = (Wi.packOut p).length := ⟨_, rfl⟩
    obtain ⟨ml, hml'⟩ : ∃ ml, ml = more.length := ⟨_, rfl⟩
    rw [← hbl] at hvf hcap
    have Hbl := Lib.hid hbl
    clear hbl hml'
    subst hvf hmf
    by_cases h0 : 0 ≤ nn
    · by_cases hlt : nn < (bl : Int)
      · obtain ⟨k, rfl⟩ : ∃ k : Nat, nn = (k : Int) := ⟨nn.toNat, by omega⟩
        have hkl : k < bl := by omega
        have hHn := Wi.unpack_take hp he0 (n := k) (by rw [← hpo, ← Hbl.out]; exact hkl)
        rw [← hpo] at hHn
        have hsub : RB wq (.slice (some ⟨g, 0, none⟩) k cap) ((Wi.packOut p).take k) := by
          have h := hV.rb
          rw [Hbl.out] at h
          exact h.front k cap (by rw [← Hbl.out]; omega) (by omega) hcm
        have hSh := Lib.hid hS
        have hVh := Lib.hid hV
        have hmh := Lib.hid hm
        clear hS hV hm
        go_upto_region 7 with (first | (go_at_call 17; refine (num_same _ 0).out.mono ?_; rintro e w4 ⟨rfl, rfl⟩) | fail)
        rename_i hnext
        refine wp_region_lit ?_
        refine Og.st_start (n := 72) rfl fun a hF => ?_
        refine Og.st_same (.slice (some ⟨g, 0, none⟩) bl cap) hF rfl rfl (by decide) (by kernel_rfl) ?_
        clear hF a; intro a hF
        refine Og.st_same (.int .i64 k) hF rfl rfl (by decide) (by kernel_rfl) ?_
        clear hF a; intro a hF
        refine Og.st_same (.slice (some ⟨g, 0, none⟩) k cap) hF rfl rfl (by decide) (exec_sliceAt rfl (slice_front wq g 0 bl cap k (by omega))) ?_
        clear hF a; intro a hF
        refine Og.st_call (f := 30) (args := #[.slice (some ⟨g, 0, none⟩) k cap]) hF rfl rfl (by decide) ((Og.exec_call rfl copied_enter rfl _).trans (by kernel_rfl)) ((copied_calls hsub).mono ?_)
        rintro e w5 ⟨cv, rfl, hcv, hb5⟩
        refine ⟨_, rfl, ?_⟩
        clear hF a; intro a hF
        have hV := hVh.out.below hb5
        have hm := hmh.out.below hb5
        have hS := hSh.out.below hb5
        have hb := hb.trans (hb5.mono hAw)
        have hAw := Nat.le_trans hAw hb5.size
        have hok := Wi.unpack_ok ((Wi.packOut p).take k)
        refine st_dec (l := (Wi.packOut p).take k) 38 39 34 40 41 42 9 10 11 hF hcv.rb hS rfl ?_ hok
        clear hF a; intro a wq D qv T hF hQ hoq hb7 hD hqk
        rw [hHn] at *
        have hV := hV.below hb7
        have hm := hm.below hb7
        have hS := hS.below hb7
        have hSq : 3 < wq.heap.size := hS.1
        have hb := hb.trans (hb7.mono hAw)
        have hAw := Nat.le_trans hAw hb7.size
        have hVlt : ∀ g', (Value.slice (some ⟨g, 0, none⟩) bl cap).ownBlock = some g' → g' < wq.heap.size := fun g' e => (hV.lt g' e).2
        obtain ⟨U, rfl⟩ := Og.Fr.lit_ex hF (fun U => ⟨#[U 0, .int .i64 k, .slice mq more.length mc, U 3, U 4, U 5, .bool false, .slice (some ⟨g, 0, none⟩) bl cap, U 8, U 9, .int .i64 k, .int .i64 71, U 12, U 13, U 14, U 15, U 16, U 17, U 18, U 19, U 20, U 21, U 22, U 23, U 24, U 25, U 26, U 27, U 28, U 29, U 30, U 31, U 32, U 33, U 34, U 35, U 36, U 37, U 38, U 39, U 40, U 41, U 42, U 43, U 44, U 45, U 46, U 47, U 48, U 49, U 50, U 51, U 52, U 53, U 54, U 55, U 56, U 57, U 58, U 59, U 60, U 61, U 62, U 63, U 64, U 65, U 66, U 67, U 68, U 69, U 70, U 71], []⟩) (by kernel_rfl)
        clear hF hQ hoq hVh hmh hSh hcv hb5 hb7 hsub
        refine hnext _ _ ?_
        clear hnext
        have hkk : (((k : Nat) : Int) != ((k : Nat) : Int)) = false := by simp
        have hSh := Lib.hid hS
        have hVh := Lib.hid hV
        have hmh := Lib.hid hm
        clear hS hV hm
        go_upto_region 10 with (first | (go_at_call 17; refine (num_same _ 71).out.mono ?_; rintro e w4 ⟨rfl, rfl⟩) | fail)
        rename_i hnext
        have hS := hSh.out
        have hV := hVh.out
        have hm := hmh.out
        clear hSh hVh hmh
        generalize hvv : Value.slice (some ⟨g, 0, none⟩) bl cap = v at *
        by_cases hm0 : more.length = 0
        · have hl0 : ((more.length : Int) == 0) = true := by rw [hm0]; rfl
          have Hm := Lib.hid hm0
          clear hm0 hS hV
          go_wp2_with fail
          go_ret
          exact ⟨rfl, by first | exact hb | (rw [hA]; exact hb)⟩
        · have hl0 : ((more.length : Int) == 0) = false := by
            have : ¬ (more.length : Int) = 0 := by omega
            simpa using this
          have hmne : more ≠ [] := fun e => hm0 (by rw [e]; rfl)
          have hun := Wi.unpack_more hp he0 hmne
          have hVr := hV.rb
          clear hm0
          go_upto_region 12 with fail
          rename_i hnext
          refine wp_region_lit ?_
          refine Og.st_start (n := 72) rfl fun a hF => ?_
          refine Og.st_same v hF rfl rfl (by decide) (by kernel_rfl) ?_
          clear hF a; intro a hF
          refine Og.st_call (f := 30) (args := #[v]) hF rfl rfl (by decide) ((Og.exec_call rfl copied_enter rfl _).trans (by kernel_rfl)) ((copied_calls hVr).mono ?_)
          rintro e w5 ⟨cv, rfl, hcv, hb5⟩
          refine ⟨_, rfl, ?_⟩
          clear hF a; intro a hF
          have hV := hV.below hb5
          have hm := hm.below hb5
          have hS := hS.below hb5
          have hb := hb.trans (hb5.mono hAw)
          have hAw5 := Nat.le_trans hAw hb5.size
          refine Og.st_same (.slice mq more.length mc) hF rfl rfl (by decide) (by kernel_rfl) ?_
          clear hF a; intro a hF
          have hcB : OB A w5 cv (Wi.packOut p) := hcv.more hAw
          obtain ⟨av, w6, hrun, ha6, hg6, hat6⟩ := run_append_OB hcB hm (by rw [hpo]; have := Wi.packed_small hp he0; omega) hAw5
          refine Og.st_val (w' := w6) av hF rfl rfl (by decide) (Og.exec_append rfl hrun) ?_
          clear hF a; intro a hF
          have hclt : ∀ k, cv.ownBlock = some k → wq.heap.size ≤ k := fun k e => (hcv.lt k e).1
          have hbq : Below wq.heap.size w5 w6 := (Below.refl _ _).grown hg6 hb5.size hclt
          have hV := hV.at_ (w' := w6) (fun g e => hbq.block g (hVlt g e))
          have hS := hS.belowB hSq hbq
          have hb := hb.trans (hbq.mono hAw)
          have hAw6 : A ≤ w6.heap.size := Nat.le_trans hAw5 hbq.size
          have hok := Wi.unpack_ok (Wi.packOut p ++ more)
          refine st_dec (l := Wi.packOut p ++ more) 58 59 54 60 61 62 12 13 14 hF ha6.rb hS rfl ?_ hok
          clear hF a; intro a w7 D qv T hF hQ hoq hb7 hD hqk
          rw [hpo] at *
          rw [hun] at *
          have hV := hV.below hb7
          have hb := hb.trans (hb7.mono hAw6)
          obtain ⟨q, c, hvf⟩ := hV.rb.form
          obtain ⟨U, rfl⟩ := Og.Fr.lit_ex hF (fun U => ⟨#[U 0, U 1, U 2, U 3, U 4, U 5, .bool false, v, U 8, U 9, U 10, U 11, U 12, .int .i64 (Wi.packed p).length, .int .i64 76, U 15, U 16, U 17, U 18, U 19, U 20, U 21, U 22, U 23, U 24, U 25, U 26, U 27, U 28, U 29, U 30, U 31, U 32, U 33, U 34, U 35, U 36, U 37, U 38, U 39, U 40, U 41, U 42, U 43, U 44, U 45, U 46, U 47, U 48, U 49, U 50, U 51, U 52, U 53, U 54, U 55, U 56, U 57, U 58, U 59, U 60, U 61, U 62, U 63, U 64, U 65, U 66, U 67, U 68, U 69, U 70, U 71], []⟩) (by kernel_rfl)
          clear hF hQ hoq hV
          subst hvf
          refine hnext _ _ ?_
          clear hnext hS
          go_wp2_with (first | (go_at_call 17; refine (num_same _ 76).out.mono ?_; rintro e w8 ⟨rfl, rfl⟩) | fail)
          go_ret
          exact ⟨rfl, by first | exact hb | (rw [hA]; exact hb)⟩
      · have hSh := Lib.hid hS
        have hVh := Lib.hid hV
        have hmh := Lib.hid hm
        clear hS hV hm
        go_upto_region 10 with (first | (go_at_call 17; refine (num_same _ 0).out.mono ?_; rintro e w4 ⟨rfl, rfl⟩) | fail)
        rename_i hnext
        have hS := hSh.out
        have hV := hVh.out
        have hm := hmh.out
        clear hSh hVh hmh
        generalize hvv : Value.slice (some ⟨g, 0, none⟩) bl cap = v at *
        by_cases hm0 : more.length = 0
        · have hl0 : ((more.length : Int) == 0) = true := by rw [hm0]; rfl
          have Hm := Lib.hid hm0
          clear hm0 hS hV
          go_wp2_with fail
          go_ret
          exact ⟨rfl, by first | exact hb | (rw [hA]; exact hb)⟩
        · have hl0 : ((more.length : Int) == 0) = false := by
            have : ¬ (more.length : Int) = 0 := by omega
            simpa using this
          have hmne : more ≠ [] := fun e => hm0 (by rw [e]; rfl)
          have hun := Wi.unpack_more hp he0 hmne
          have hVr := hV.rb
          clear hm0
          go_upto_region 12 with fail
          rename_i hnext
          refine wp_region_lit ?_
          refine Og.st_start (n := 72) rfl fun a hF => ?_
          refine Og.st_same v hF rfl rfl (by decide) (by kernel_rfl) ?_
          clear hF a; intro a hF
          refine Og.st_call (f := 30) (args := #[v]) hF rfl rfl (by decide) ((Og.exec_call rfl copied_enter rfl _).trans (by kernel_rfl)) ((copied_calls hVr).mono ?_)
          rintro e w5 ⟨cv, rfl, hcv, hb5⟩
          refine ⟨_, rfl, ?_⟩
          clear hF a; intro a hF
          have hV := hV.below hb5
          have hm := hm.below hb5
          have hS := hS.below hb5
          have hb := hb.trans (hb5.mono hAw)
          have hAw5 := Nat.le_trans hAw hb5.size
          refine Og.st_same (.slice mq more.length mc) hF rfl rfl (by decide) (by kernel_rfl) ?_
          clear hF a; intro a hF
          have hcB : OB A w5 cv (Wi.packOut p) := hcv.more hAw
          obtain ⟨av, w6, hrun, ha6, hg6, hat6⟩ := run_append_OB hcB hm (by rw [hpo]; have := Wi.packed_small hp he0; omega) hAw5
          refine Og.st_val (w' := w6) av hF rfl rfl (by decide) (Og.exec_append rfl hrun) ?_
          clear hF a; intro a hF
          have hclt : ∀ k, cv.ownBlock = some k → wq.heap.size ≤ k := fun k e => (hcv.lt k e).1
          have hbq : Below wq.heap.size w5 w6 := (Below.refl _ _).grown hg6 hb5.size hclt
          have hV := hV.at_ (w' := w6) (fun g e => hbq.block g (hVlt g e))
          have hS := hS.belowB hSq hbq
          have hb := hb.trans (hbq.mono hAw)
          have hAw6 : A ≤ w6.heap.size := Nat.le_trans hAw5 hbq.size
          have hok := Wi.unpack_ok (Wi.packOut p ++ more)
          refine st_dec (l := Wi.packOut p ++ more) 58 59 54 60 61 62 12 13 14 hF ha6.rb hS rfl ?_ hok
          clear hF a; intro a w7 D qv T hF hQ hoq hb7 hD hqk
          rw [hpo] at *
          rw [hun] at *
          have hV := hV.below hb7
          have hb := hb.trans (hb7.mono hAw6)
          obtain ⟨q, c, hvf⟩ := hV.rb.form
          obtain ⟨U, rfl⟩ := Og.Fr.lit_ex hF (fun U => ⟨#[U 0, U 1, U 2, U 3, U 4, U 5, .bool false, v, U 8, U 9, U 10, U 11, U 12, .int .i64 (Wi.packed p).length, .int .i64 76, U 15, U 16, U 17, U 18, U 19, U 20, U 21, U 22, U 23, U 24, U 25, U 26, U 27, U 28, U 29, U 30, U 31, U 32, U 33, U 34, U 35, U 36, U 37, U 38, U 39, U 40, U 41, U 42, U 43, U 44, U 45, U 46, U 47, U 48, U 49, U 50, U 51, U 52, U 53, U 54, U 55, U 56, U 57, U 58, U 59, U 60, U 61, U 62, U 63, U 64, U 65, U 66, U 67, U 68, U 69, U 70, U 71], []⟩) (by kernel_rfl)
          clear hF hQ hoq hV
          subst hvf
          refine hnext _ _ ?_
          clear hnext hS
          go_wp2_with (first | (go_at_call 17; refine (num_same _ 76).out.mono ?_; rintro e w8 ⟨rfl, rfl⟩) | fail)
          go_ret
          exact ⟨rfl, by first | exact hb | (rw [hA]; exact hb)⟩
    · have hSh := Lib.hid hS
      have hVh := Lib.hid hV
      have hmh := Lib.hid hm
      clear hS hV hm
      go_upto_region 10 with (first | (go_at_call 17; refine (num_same _ 0).out.mono ?_; rintro e w4 ⟨rfl, rfl⟩) | fail)
      rename_i hnext
      have hS := hSh.out
      have hV := hVh.out
      have hm := hmh.out
      clear hSh hVh hmh
      generalize hvv : Value.slice (some ⟨g, 0, none⟩) bl cap = v at *
      by_cases hm0 : more.length = 0
      · have hl0 : ((more.length : Int) == 0) = true := by rw [hm0]; rfl
        have Hm := Lib.hid hm0
        clear hm0 hS hV
        go_wp2_with fail
        go_ret
        exact ⟨rfl, by first | exact hb | (rw [hA]; exact hb)⟩
      · have hl0 : ((more.length : Int) == 0) = false := by
          have : ¬ (more.length : Int) = 0 := by omega
          simpa using this
        have hmne : more ≠ [] := fun e => hm0 (by rw [e]; rfl)
        have hun := Wi.unpack_more hp he0 hmne
        have hVr := hV.rb
        clear hm0
        go_upto_region 12 with fail
        rename_i hnext
        refine wp_region_lit ?_
        refine Og.st_start (n := 72) rfl fun a hF => ?_
        refine Og.st_same v hF rfl rfl (by decide) (by kernel_rfl) ?_
        clear hF a; intro a hF
        refine Og.st_call (f := 30) (args := #[v]) hF rfl rfl (by decide) ((Og.exec_call rfl copied_enter rfl _).trans (by kernel_rfl)) ((copied_calls hVr).mono ?_)
        rintro e w5 ⟨cv, rfl, hcv, hb5⟩
        refine ⟨_, rfl, ?_⟩
        clear hF a; intro a hF
        have hV := hV.below hb5
        have hm := hm.below hb5
        have hS := hS.below hb5
        have hb := hb.trans (hb5.mono hAw)
        have hAw5 := Nat.le_trans hAw hb5.size
        refine Og.st_same (.slice mq more.length mc) hF rfl rfl (by decide) (by kernel_rfl) ?_
        clear hF a; intro a hF
        have hcB : OB A w5 cv (Wi.packOut p) := hcv.more hAw
        obtain ⟨av, w6, hrun, ha6, hg6, hat6⟩ := run_append_OB hcB hm (by rw [hpo]; have := Wi.packed_small hp he0; omega) hAw5
        refine Og.st_val (w' := w6) av hF rfl rfl (by decide) (Og.exec_append rfl hrun) ?_
        clear hF a; intro a hF
        have hclt : ∀ k, cv.ownBlock = some k → wq.heap.size ≤ k := fun k e => (hcv.lt k e).1
        have hbq : Below wq.heap.size w5 w6 := (Below.refl _ _).grown hg6 hb5.size hclt
        have hV := hV.at_ (w' := w6) (fun g e => hbq.block g (hVlt g e))
        have hS := hS.belowB hSq hbq
        have hb := hb.trans (hbq.mono hAw)
        have hAw6 : A ≤ w6.heap.size := Nat.le_trans hAw5 hbq.size
        have hok := Wi.unpack_ok (Wi.packOut p ++ more)
        refine st_dec (l := Wi.packOut p ++ more) 58 59 54 60 61 62 12 13 14 hF ha6.rb hS rfl ?_ hok
        clear hF a; intro a w7 D qv T hF hQ hoq hb7 hD hqk
        rw [hpo] at *
        rw [hun] at *
        have hV := hV.below hb7
        have hb := hb.trans (hb7.mono hAw6)
        obtain ⟨q, c, hvf⟩ := hV.rb.form
        obtain ⟨U, rfl⟩ := Og.Fr.lit_ex hF (fun U => ⟨#[U 0, U 1, U 2, U 3, U 4, U 5, .bool false, v, U 8, U 9, U 10, U 11, U 12, .int .i64 (Wi.packed p).length, .int .i64 76, U 15, U 16, U 17, U 18, U 19, U 20, U 21, U 22, U 23, U 24, U 25, U 26, U 27, U 28, U 29, U 30, U 31, U 32, U 33, U 34, U 35, U 36, U 37, U 38, U 39, U 40, U 41, U 42, U 43, U 44, U 45, U 46, U 47, U 48, U 49, U 50, U 51, U 52, U 53, U 54, U 55, U 56, U 57, U 58, U 59, U 60, U 61, U 62, U 63, U 64, U 65, U 66, U 67, U 68, U 69, U 70, U 71], []⟩) (by kernel_rfl)
        clear hF hQ hoq hV
        subst hvf
        refine hnext _ _ ?_
        clear hnext hS
        go_wp2_with (first | (go_at_call 17; refine (num_same _ 76).out.mono ?_; rintro e w8 ⟨rfl, rfl⟩) | fail)
        go_ret
        exact ⟨rfl, by first | exact hb | (rw [hA]; exact hb)⟩
  · have Hm := Lib.hid hm
    have HS := Lib.hid hS
    have Ho := Lib.hid ho
    clear hm hS ho hca
    go_wp2_with fail
    refine (example_calls HS.out).out.mono ?_
    rintro e w4 ⟨rfl, hb4⟩
    go_wp2_with (first | (go_at_call 17; refine (num_same _ (Wi.packErr p)).out.mono ?_; rintro e w5 ⟨rfl, rfl⟩) | fail)
    go_ret
    exact ⟨rfl, by rw [hA]; exact hb.trans (hb4.mono hAw)⟩
end Go.Proofs.YtbgfoobcpacfeaaDoor
