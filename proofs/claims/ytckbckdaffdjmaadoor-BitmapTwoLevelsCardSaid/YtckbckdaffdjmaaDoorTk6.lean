/- Walks and plain laws of the packets and frames, joined from: TlE, TlM, TlN, LwOp, LdT. -/
import Derived.Test.YtckbckdaffdjmaaDoorTk5
/- The law's own function lay. -/
namespace Go.Proofs.YtckbckdaffdjmaaDoor
open Go.RowKit
set_option maxRecDepth 100000
set_option linter.unusedVariables false
set_option linter.unusedSimpArgs false

/-- It returns; the bitmap is one of n bits. -/
def SB (w : World) (p bw ba n : Nat) (e : Ending) (w' : World) : Prop := (∃ v, e = .returned v) ∧ ∃ W', BM w' p bw ba n W' ∧ Mod (BM.At p bw ba) w w'
section
variable {w : World} {p bw ba n : Nat} {W : List UInt64}
theorem SB.of_pur {f : FuncId} {args : Array Value} {v : Value} (h : BM w p bw ba n W) (hp : Pur Tryd.prog f args w v) : Calls Tryd.prog f args w (SB w p bw ba n) :=
  hp.out.mono fun e w' ⟨he, hb⟩ => ⟨⟨_, he⟩, W, h.below hb, Mod.of_below hb⟩
theorem set_any (h : BM w p bw ba n W) (i : Int) : Calls Tryd.prog 28 #[.pointer (some ⟨p, 0, none⟩), .int .i64 i] w (SB w p bw ba n) := by
  by_cases hi : i < 0 ∨ (n : Int) ≤ i
  · exact SB.of_pur h (set_err h hi)
  · obtain ⟨m, rfl⟩ : ∃ m : Nat, i = m := ⟨i.toNat, by omega⟩
    exact (set_calls h (i := m) (by omega)).mono fun e w' ⟨he, h1, h2⟩ => ⟨⟨_, he⟩, _, h1, h2⟩
theorem clear_any (h : BM w p bw ba n W) (i : Int) : Calls Tryd.prog 34 #[.pointer (some ⟨p, 0, none⟩), .int .i64 i] w (SB w p bw ba n) := by
  by_cases hi : i < 0 ∨ (n : Int) ≤ i
  · exact SB.of_pur h (clear_err h hi)
  · obtain ⟨m, rfl⟩ : ∃ m : Nat, i = m := ⟨i.toNat, by omega⟩
    exact (clear_calls h (i := m) (by omega)).mono fun e w' ⟨he, h1, h2⟩ => ⟨⟨_, he⟩, _, h1, h2⟩
theorem setrange_any (h : BM w p bw ba n W) {f c : Int} (h1 : (Lit.int .i64 f).wf = true) (h2 : (Lit.int .i64 c).wf = true) : Calls Tryd.prog 67 #[.pointer (some ⟨p, 0, none⟩), .int .i64 f, .int .i64 c] w (SB w p bw ba n) := by
  by_cases he : Bm.rangeE n f c = 0
  · obtain ⟨k1, k2, k3, k4⟩ := Bm.rangeE_ok he
    obtain ⟨a, rfl⟩ : ∃ a : Nat, f = a := ⟨f.toNat, by omega⟩
    obtain ⟨b, rfl⟩ : ∃ b : Nat, c = b := ⟨c.toNat, by omega⟩
    exact (setrange_calls h (f := a) (c := b) (by omega)).mono fun e w' ⟨he, h1, h2⟩ => ⟨⟨_, he⟩, _, h1, h2⟩
  · exact SB.of_pur h (setrange_err h h1 h2 he)
theorem clearrange_any (h : BM w p bw ba n W) {f c : Int} (h1 : (Lit.int .i64 f).wf = true) (h2 : (Lit.int .i64 c).wf = true) : Calls Tryd.prog 68 #[.pointer (some ⟨p, 0, none⟩), .int .i64 f, .int .i64 c] w (SB w p bw ba n) := by
  by_cases he : Bm.rangeE n f c = 0
  · obtain ⟨k1, k2, k3, k4⟩ := Bm.rangeE_ok he
    obtain ⟨a, rfl⟩ : ∃ a : Nat, f = a := ⟨f.toNat, by omega⟩
    obtain ⟨b, rfl⟩ : ∃ b : Nat, c = b := ⟨c.toNat, by omega⟩
    exact (clearrange_calls h (f := a) (c := b) (by omega)).mono fun e w' ⟨he, h1, h2⟩ => ⟨⟨_, he⟩, _, h1, h2⟩
  · exact SB.of_pur h (clearrange_err h h1 h2 he)
theorem merge_any (h : BM w p bw ba n W) {v : Value} {V : List UInt64} (hv : RU w v V) (hne : ∀ g, v.ownBlock = some g → ¬ BM.At p bw ba g) : Calls Tryd.prog 43 #[.pointer (some ⟨p, 0, none⟩), v] w (SB w p bw ba n) := by
  by_cases he : Bm.validE n V = 0
  · exact (merge_calls h hv (Bm.ok_of_valid h.ok.pos h.ok.max he) hne).mono fun e w' ⟨he, h1, h2⟩ => ⟨⟨_, he⟩, _, h1, h2⟩
  · exact SB.of_pur h (merge_err h hv he)
end
set_option maxHeartbeats 16000000 in
theorem lawlay_calls {w : World} {n : Nat} {v sv : Value} {V : List UInt64} {ops : List OpV} (hok : Bm.Ok n V) (hv : RU w v V) (hs : SlOp w sv ops) :
    Calls Tryd.prog 27 #[.int .i64 n, v, sv] w fun e w' => ∃ p bw ba W', e = .returned (.pointer (some ⟨p, 0, none⟩)) ∧ BM w' p bw ba n W' ∧ w.heap.size ≤ p ∧ w.heap.size ≤ bw ∧ w.heap.size ≤ ba ∧ Below w.heap.size w w' := by
  have hlen := hok.len
  have hr : Bm.room n ≤ 1024 := by have := hok.max; unfold Bm.room; omega
  have hcop := copied_calls hv (by omega)
  have HL : Hid (V.length + 3 ≤ 17592186044416) := Lib.hid (by omega)
  have HOK := Lib.hid hok
  have HV := Lib.hid hv
  have HC := Lib.hid hcop
  have HS := Lib.hid hs
  obtain ⟨q, c, hse, hsl, -⟩ := hs
  obtain ⟨M, hM⟩ : ∃ M, M = ops.length := ⟨_, rfl⟩
  have HM := Lib.hid hM
  rw [← hM] at hse hsl
  have hM9 : (M : Int) ≤ 1256584717715 := by omega
  obtain ⟨vp, vc, hve⟩ := hv.form
  generalize V.length = VL at hve
  subst hse hve
  clear hok hv hcop hM hlen hr
  go_enter Tryd.func27, Tryd.ntmps27
  go_upto_region 4 with (first
    | (go_at_call 19; refine HC.out.mono ?_; clear HC; rintro e w1 ⟨xi, rfl, hci, hb1⟩
       have hfr := from_calls (hci.ru HL.out) HOK.out
       have HB1 := Lib.hid hb1
       have HFR := Lib.hid hfr
       clear hci hb1 hfr)
    | (go_at_call 54; refine HFR.out.mono ?_; clear HFR; rintro e w2 ⟨p, bw, ba, rfl, hm, hp1, hp2, hp3, hb2⟩
       have HB2 : Hid (Below w.heap.size w w2) := Lib.hid (HB1.out.trans (hb2.mono HB1.out.size))
       have HP : Hid (∀ k, BM.At p bw ba k → w.heap.size ≤ k) := Lib.hid (by have := HB1.out.size; rintro k (rfl | rfl | rfl) <;> omega)
       have HBM := Lib.hid hm
       clear hm hp1 hp2 hp3 hb2 HB1)
    | (go_at_call 33; refine (num_calls _).out.mono ?_; rintro e w3 ⟨rfl, hb3⟩)
    | fail)
  have HB3 : Hid (Below w.heap.size w w3) := Lib.hid (HB2.out.trans (hb3.mono HB2.out.size))
  have HM3 := Lib.hid (HBM.out.below hb3)
  clear hb3
  go_wp2_with fail
  refine wp_loop_count (fun i a w' => ∃ W', Is (fun U => ⟨#[U 0, U 1, .slice q M c, U 3, U 4, U 5, U 6, .pointer (some ⟨p, 0, none⟩), U 8, .int .i64 i, U 10, U 11, U 12, U 13, U 14, U 15, U 16, U 17, U 18, U 19, U 20, U 21, U 22, U 23, U 24, U 25, U 26, U 27, U 28, U 29, U 30, U 31, U 32, U 33, U 34, U 35, U 36, U 37, U 38, U 39, U 40, U 41, U 42, U 43, U 44, U 45, U 46, U 47, U 48, U 49, U 50, U 51, U 52, U 53, U 54, U 55, U 56, U 57, U 58, U 59, U 60, U 61, U 62, U 63, U 64, U 65, U 66, U 67, U 68, U 69, U 70, U 71, U 72], []⟩) a ∧ BM w' p bw ba n W' ∧ Below w.heap.size w w') M ⟨V, isU (fun U => ⟨#[U 0, U 1, .slice q M c, U 3, U 4, U 5, U 6, .pointer (some ⟨p, 0, none⟩), U 8, .int .i64 0, U 10, U 11, U 12, U 13, U 14, U 15, U 16, U 17, U 18, U 19, U 20, U 21, U 22, U 23, U 24, U 25, U 26, U 27, U 28, U 29, U 30, U 31, U 32, U 33, U 34, U 35, U 36, U 37, U 38, U 39, U 40, U 41, U 42, U 43, U 44, U 45, U 46, U 47, U 48, U 49, U 50, U 51, U 52, U 53, U 54, U 55, U 56, U 57, U 58, U 59, U 60, U 61, U 62, U 63, U 64, U 65, U 66, U 67, U 68, U 69, U 70, U 71, U 72], []⟩) rfl, HM3.out, HB3.out⟩ ?_ ?_
  · rintro i a w' hi ⟨W', hU, hm, hb⟩
    obtain ⟨U, rfl⟩ := hU.out
    obtain ⟨q', c', e', _, hr⟩ := HS.out.below hb
    simp only [Value.slice.injEq] at e'
    obtain ⟨rfl, -, -⟩ := e'
    obtain ⟨o, ho⟩ : ∃ o, ops[i]? = some o := ⟨_, List.getElem?_eq_getElem (by rw [← HM.out]; exact hi)⟩
    obtain ⟨g, off, rfl, hg, hoo, hrg⟩ := hr i o ho
    have hi' : (i : Int) < (M : Int) := by exact_mod_cast hi
    have hi0 : (0 : Int) ≤ (i : Int) := Int.natCast_nonneg i
    have HBI := Lib.hid hb
    have HMI := Lib.hid hm
    have HOO := Lib.hid hoo
    clear hU hb hm hr ho hsl
    go_upto_region 7 with fail
    rename_i hnext
    refine wp_region_lit ?_
    refine Og.st_start (n := 73) rfl fun a hF => ?_
    refine Og.st_same (.slice (some ⟨g, off, none⟩) M c) hF rfl rfl (by decide) (by kernel_rfl) ?_
    clear hF a; intro a hF
    refine Og.st_same (.int .i64 i) hF rfl rfl (by decide) (by kernel_rfl) ?_
    clear hF a; intro a hF
    refine Og.st_same (.pointer (some ⟨g, off + i * 8, none⟩)) hF rfl rfl (by decide) (exec_idx rfl (show (Instr.indexAt 49 (.slice (some ⟨g, off, none⟩) M c) (.int .i64 i)).run Tryd.prog w' = _ from idx_op w' g off M c i hi)) ?_
    clear hF a; intro a hF
    refine Og.st_same (.agg (opL o).toArray) hF rfl rfl (by decide) (Og.exec_load rfl (load_op hrg)) ?_
    clear hF a; intro a hF
    refine Og.st_val (w' := w'.alloc (.cells opZ.toArray 39)) (.pointer (some ⟨w'.heap.size, 0, none⟩)) hF rfl rfl (by decide) (alloc_op rfl w') ?_
    clear hF a; intro a hF
    refine Og.st_skip (w' := (w'.alloc (.cells opZ.toArray 39)).setCells w'.heap.size 0 (opL o)) hF rfl rfl
      (exec_store (o := 0) (vs := opL o) (cs := opZ) rfl rfl rfl (heap_new _ _ _ rfl) (Nat.le_refl 8) opi (opL_one hoo)) ?_
    clear hF a; intro a hF
    obtain ⟨w4, hw4, hrw4, hb4⟩ := op_copy hoo
    rw [← hw4]
    obtain ⟨A, hA⟩ : ∃ A, A = w'.heap.size := ⟨_, rfl⟩
    rw [← hA] at hF hrw4
    refine wpList_nil ?_
    obtain ⟨U, rfl⟩ := Og.Fr.lit_ex hF (fun U => ⟨#[U 0, U 1, .slice (some ⟨g, off, none⟩) M c, U 3, U 4, U 5, U 6, .pointer (some ⟨p, 0, none⟩), U 8, .int .i64 i, .pointer (some ⟨A, 0, none⟩), U 11, U 12, U 13, U 14, U 15, U 16, U 17, U 18, U 19, U 20, U 21, U 22, U 23, U 24, U 25, U 26, U 27, U 28, U 29, U 30, U 31, U 32, U 33, U 34, U 35, U 36, U 37, U 38, U 39, U 40, U 41, U 42, U 43, U 44, U 45, U 46, U 47, U 48, U 49, U 50, U 51, U 52, U 53, U 54, U 55, U 56, U 57, U 58, U 59, U 60, U 61, U 62, U 63, U 64, U 65, U 66, U 67, U 68, U 69, U 70, U 71, U 72], []⟩) (by kernel_rfl)
    clear hF
    refine hnext _ _ ?_
    clear hnext
    have ck := hrw4.cell (i := 0) (v := .int .i64 o.kind) rfl
    have ca := hrw4.cell (i := 2) (v := .int .i64 o.a) rfl
    have cb := hrw4.cell (i := 3) (v := .int .i64 o.b) rfl
    have cv := hrw4.cell (i := 4) (v := o.wv) rfl
    have HM4 := Lib.hid (HMI.out.below hb4)
    have HB4 : Hid (Below w.heap.size w w4) := Lib.hid (HBI.out.trans (hb4.mono HBI.out.size))
    have HO4 := Lib.hid (HOO.out.below hb4)
    obtain ⟨wp, wc, hwv⟩ := HO4.out.words.form
    rw [hwv] at cv
    have hcw := copied_calls HO4.out.words (by have := HO4.out.len; omega)
    rw [hwv] at hcw
    have HCW := Lib.hid hcw
    have HWL : Hid (o.words.length + 3 ≤ 17592186044416) := Lib.hid (by have := HO4.out.len; omega)
    have HAW := Lib.hid HO4.out.aw
    have HBW := Lib.hid HO4.out.bw
    obtain ⟨WD, hWD⟩ : ∃ WD, WD = o.words := ⟨_, rfl⟩
    rw [← hWD] at cv HCW HWL
    generalize o.kind = K at *
    generalize o.a = Ka at *
    generalize o.b = Kb at *
    clear hoo hrg hg hi hb4 hrw4 hA hw4 hcw hwv hWD HOO HO4 HBI HMI HS
    obtain ⟨VW, hVW⟩ : ∃ VW, VW = WD.length := ⟨_, rfl⟩
    rw [← hVW] at cv HCW HWL
    have HVW := Lib.hid hVW
    clear hVW
    by_cases k1 : K = 1
    · subst k1
      go_wp2_with (first | (go_at_call 28; refine (set_any HM4.out Ka).mono ?_; rintro e w5 ⟨⟨v5, rfl⟩, W5, hm5, hmd⟩) | fail)
      exact ⟨W5, isU (fun U => ⟨#[U 0, U 1, .slice (some ⟨g, off, none⟩) M c, U 3, U 4, U 5, U 6, .pointer (some ⟨p, 0, none⟩), U 8, .int .i64 (i + 1 : Nat), U 10, U 11, U 12, U 13, U 14, U 15, U 16, U 17, U 18, U 19, U 20, U 21, U 22, U 23, U 24, U 25, U 26, U 27, U 28, U 29, U 30, U 31, U 32, U 33, U 34, U 35, U 36, U 37, U 38, U 39, U 40, U 41, U 42, U 43, U 44, U 45, U 46, U 47, U 48, U 49, U 50, U 51, U 52, U 53, U 54, U 55, U 56, U 57, U 58, U 59, U 60, U 61, U 62, U 63, U 64, U 65, U 66, U 67, U 68, U 69, U 70, U 71, U 72], []⟩) rfl, hm5, HB4.out.trans (hmd.below HB4.out.size HP.out)⟩
    · by_cases k2 : K = 2
      · subst k2
        go_wp2_with (first | (go_at_call 34; refine (clear_any HM4.out Ka).mono ?_; rintro e w5 ⟨⟨v5, rfl⟩, W5, hm5, hmd⟩) | fail)
        exact ⟨W5, isU (fun U => ⟨#[U 0, U 1, .slice (some ⟨g, off, none⟩) M c, U 3, U 4, U 5, U 6, .pointer (some ⟨p, 0, none⟩), U 8, .int .i64 (i + 1 : Nat), U 10, U 11, U 12, U 13, U 14, U 15, U 16, U 17, U 18, U 19, U 20, U 21, U 22, U 23, U 24, U 25, U 26, U 27, U 28, U 29, U 30, U 31, U 32, U 33, U 34, U 35, U 36, U 37, U 38, U 39, U 40, U 41, U 42, U 43, U 44, U 45, U 46, U 47, U 48, U 49, U 50, U 51, U 52, U 53, U 54, U 55, U 56, U 57, U 58, U 59, U 60, U 61, U 62, U 63, U 64, U 65, U 66, U 67, U 68, U 69, U 70, U 71, U 72], []⟩) rfl, hm5, HB4.out.trans (hmd.below HB4.out.size HP.out)⟩
      · by_cases k3 : K = 3
        · subst k3
          go_wp2_with (first | (go_at_call 67; refine (setrange_any HM4.out HAW.out HBW.out).mono ?_; rintro e w5 ⟨⟨v5, rfl⟩, W5, hm5, hmd⟩) | fail)
          exact ⟨W5, isU (fun U => ⟨#[U 0, U 1, .slice (some ⟨g, off, none⟩) M c, U 3, U 4, U 5, U 6, .pointer (some ⟨p, 0, none⟩), U 8, .int .i64 (i + 1 : Nat), U 10, U 11, U 12, U 13, U 14, U 15, U 16, U 17, U 18, U 19, U 20, U 21, U 22, U 23, U 24, U 25, U 26, U 27, U 28, U 29, U 30, U 31, U 32, U 33, U 34, U 35, U 36, U 37, U 38, U 39, U 40, U 41, U 42, U 43, U 44, U 45, U 46, U 47, U 48, U 49, U 50, U 51, U 52, U 53, U 54, U 55, U 56, U 57, U 58, U 59, U 60, U 61, U 62, U 63, U 64, U 65, U 66, U 67, U 68, U 69, U 70, U 71, U 72], []⟩) rfl, hm5, HB4.out.trans (hmd.below HB4.out.size HP.out)⟩
        · by_cases k4 : K = 4
          · subst k4
            go_wp2_with (first | (go_at_call 68; refine (clearrange_any HM4.out HAW.out HBW.out).mono ?_; rintro e w5 ⟨⟨v5, rfl⟩, W5, hm5, hmd⟩) | fail)
            exact ⟨W5, isU (fun U => ⟨#[U 0, U 1, .slice (some ⟨g, off, none⟩) M c, U 3, U 4, U 5, U 6, .pointer (some ⟨p, 0, none⟩), U 8, .int .i64 (i + 1 : Nat), U 10, U 11, U 12, U 13, U 14, U 15, U 16, U 17, U 18, U 19, U 20, U 21, U 22, U 23, U 24, U 25, U 26, U 27, U 28, U 29, U 30, U 31, U 32, U 33, U 34, U 35, U 36, U 37, U 38, U 39, U 40, U 41, U 42, U 43, U 44, U 45, U 46, U 47, U 48, U 49, U 50, U 51, U 52, U 53, U 54, U 55, U 56, U 57, U 58, U 59, U 60, U 61, U 62, U 63, U 64, U 65, U 66, U 67, U 68, U 69, U 70, U 71, U 72], []⟩) rfl, hm5, HB4.out.trans (hmd.below HB4.out.size HP.out)⟩
          · by_cases k5 : K = 5
            · subst k5
              go_wp2_with (first
                | (go_at_call 19; refine HCW.out.mono ?_; clear HCW; rintro e w5 ⟨xi, rfl, hci, hb5⟩
                   have hxi := hci.ru (by rw [← HVW.out]; exact HWL.out)
                   have hxo := fun g0 (e0 : xi.ownBlock = some g0) => ((hci.ou (by rw [← HVW.out]; exact HWL.out)).lt g0 e0).1
                   have HXI := Lib.hid hxi
                   have HXO := Lib.hid hxo
                   have HB5 := Lib.hid hb5
                   clear hci hb5 hxi hxo)
                | (go_at_call 43; refine (merge_any (HM4.out.below HB5.out) HXI.out (fun g0 e0 => by have h1 := HXO.out g0 e0; have h2 := heap_lt HM4.out.hs; have h3 := heap_lt HM4.out.hw; have h4 := heap_lt HM4.out.ha; rintro (e | e | e) <;> omega)).mono ?_; rintro e w6 ⟨⟨v6, rfl⟩, W5, hm5, hmd⟩)
                | fail)
              have HB6 : Hid (Below w.heap.size w w5) := Lib.hid (HB4.out.trans (HB5.out.mono HB4.out.size))
              exact ⟨W5, isU (fun U => ⟨#[U 0, U 1, .slice (some ⟨g, off, none⟩) M c, U 3, U 4, U 5, U 6, .pointer (some ⟨p, 0, none⟩), U 8, .int .i64 (i + 1 : Nat), U 10, U 11, U 12, U 13, U 14, U 15, U 16, U 17, U 18, U 19, U 20, U 21, U 22, U 23, U 24, U 25, U 26, U 27, U 28, U 29, U 30, U 31, U 32, U 33, U 34, U 35, U 36, U 37, U 38, U 39, U 40, U 41, U 42, U 43, U 44, U 45, U 46, U 47, U 48, U 49, U 50, U 51, U 52, U 53, U 54, U 55, U 56, U 57, U 58, U 59, U 60, U 61, U 62, U 63, U 64, U 65, U 66, U 67, U 68, U 69, U 70, U 71, U 72], []⟩) rfl, hm5, HB6.out.trans (hmd.below HB6.out.size HP.out)⟩
            · have z1 : (K == 1) = false := by simpa using k1
              have z2 : (K == 2) = false := by simpa using k2
              have z3 : (K == 3) = false := by simpa using k3
              have z4 : (K == 4) = false := by simpa using k4
              have z5 : (K == 5) = false := by simpa using k5
              clear k1 k2 k3 k4 k5
              go_wp2_with fail
              exact ⟨W', isU (fun U => ⟨#[U 0, U 1, .slice (some ⟨g, off, none⟩) M c, U 3, U 4, U 5, U 6, .pointer (some ⟨p, 0, none⟩), U 8, .int .i64 (i + 1 : Nat), U 10, U 11, U 12, U 13, U 14, U 15, U 16, U 17, U 18, U 19, U 20, U 21, U 22, U 23, U 24, U 25, U 26, U 27, U 28, U 29, U 30, U 31, U 32, U 33, U 34, U 35, U 36, U 37, U 38, U 39, U 40, U 41, U 42, U 43, U 44, U 45, U 46, U 47, U 48, U 49, U 50, U 51, U 52, U 53, U 54, U 55, U 56, U 57, U 58, U 59, U 60, U 61, U 62, U 63, U 64, U 65, U 66, U 67, U 68, U 69, U 70, U 71, U 72], []⟩) rfl, HM4.out, HB4.out⟩
  · rintro a w' ⟨W', hU, hm, hb⟩
    obtain ⟨U, rfl⟩ := hU.out
    have HB := Lib.hid hb
    have HMM := Lib.hid hm
    clear hU hb hm
    go_wp2_with fail
    go_ret
    exact ⟨p, bw, ba, W', rfl, HMM.out, HP.out _ (.inl rfl), HP.out _ (.inr (.inl rfl)), HP.out _ (.inr (.inr rfl)), HB.out⟩
end Go.Proofs.YtckbckdaffdjmaaDoor

/- The statement BitmapTwoLevels: the walk. -/
namespace Go.Proofs.YtckbckdaffdjmaaDoor
open Go.RowKit
set_option maxRecDepth 100000
set_option linter.unusedVariables false
set_option linter.unusedSimpArgs false

theorem shr_one {x r : Nat} (hx : x < 18446744073709551616) (h : x.testBit r = true) : (bits .and .u64 ((x : Int) / 2 ^ r) 1 != 1) = false := by
  have := shr_bit (r := r) hx
  rw [h] at this
  simp only [bne, this]; rfl
theorem shr_zero {x r : Nat} (hx : x < 18446744073709551616) (h : x.testBit r = false) : (bits .and .u64 ((x : Int) / 2 ^ r) 1 != 0) = false := by
  have h2 : x / 2 ^ r < 18446744073709551616 := Nat.lt_of_le_of_lt (Nat.div_le_self _ _) hx
  have h3 := u64_and_nat (x / 2 ^ r) 1 h2 (by decide)
  rw [Nat.and_one_is_mod] at h3
  rw [Nat.testBit_eq_decide_div_mod_eq] at h
  have h4 : x / 2 ^ r % 2 = 0 := by
    rcases Nat.mod_two_eq_zero_or_one (x / 2 ^ r) with e | e
    · exact e
    · rw [e] at h; cases h
  rw [h4] at h3
  rw [div_nat, show bits .and .u64 ((x / 2 ^ r : Nat) : Int) 1 = ((0 : Nat) : Int) from h3]; rfl
set_option maxHeartbeats 16000000 in
theorem twolevels_main {w : World} {n b f : Nat} {v sv : Value} {V : List UInt64} {ops : List OpV} (hok : Bm.Ok n V) (hv : RU w v V) (hs : SlOp w sv ops) (hT : Tz w) (hb : b < n) (hf : f < n) :
    Pur Tryd.prog 5 #[.int .i64 n, v, sv, .int .i64 b, .int .i64 f] w (.bool true) := by
  unfold Pur
  have hmx := hok.max
  have hpos := hok.pos
  have hli := lawlisted_calls (n := n) hv (wf_nat (by omega))
  rw [show Bm.listedB n V = true by unfold Bm.listedB; rw [decide_eq_true (by omega), Int.toNat_natCast, Bm.valid_of_ok hok]; rfl] at hli
  have HLI := Lib.hid hli
  have HOK := Lib.hid hok
  have HV := Lib.hid hv
  have HS := Lib.hid hs
  have HT := Lib.hid hT
  have HBN := Lib.hid hb
  have HFN := Lib.hid hf
  obtain ⟨vp, vc, hve⟩ := hv.form
  obtain ⟨sp, sc, hse, -, -⟩ := hs
  generalize V.length = VL at hve
  generalize ops.length = SL at hse
  subst hve hse
  have hn0 : (n : Int) ≤ 65536 := by omega
  have hb0 : (0 : Int) ≤ (b : Int) := Int.natCast_nonneg b
  have hf0 : (0 : Int) ≤ (f : Int) := Int.natCast_nonneg f
  have hb1 : (b : Int) < (n : Int) := by omega
  have hf1 : (f : Int) < (n : Int) := by omega
  clear hok hv hT hli hmx hpos hb hf
  go_enter Tryd.func5, Tryd.ntmps5
  go_upto_region 5 with (first
    | (go_at_call 26; refine HLI.out.out.mono ?_; clear HLI; rintro e w1 ⟨rfl, hbw⟩
       have hl := lawlay_calls HOK.out (HV.out.below hbw) (HS.out.below hbw)
       have HB1 := Lib.hid hbw
       have HL := Lib.hid hl
       clear hbw hl)
    | (go_at_call 27; refine HL.out.mono ?_; clear HL; rintro e w2 ⟨p, bw, ba, W1, rfl, hm, hp1, hp2, hp3, hbw⟩
       have HM2 := Lib.hid hm
       have HB2 : Hid (Below w.heap.size w w2) := Lib.hid (HB1.out.trans (hbw.mono HB1.out.size))
       have HP : Hid (∀ k, BM.At p bw ba k → w.heap.size ≤ k) := Lib.hid (by have := HB1.out.size; rintro k (rfl | rfl | rfl) <;> omega)
       clear hm hp1 hp2 hp3 hbw HB1)
    | fail)
  have hst := set_calls HM2.out HBN.out
  have HST := Lib.hid hst
  clear hst
  go_upto_region 8 with (first
    | (go_at_call 28; refine HST.out.mono ?_; clear HST; rintro e w3 ⟨rfl, hm, hmd⟩
       have HM3 := Lib.hid hm
       have HB3 : Hid (Below w.heap.size w w3) := Lib.hid (HB2.out.trans (hmd.below HB2.out.size HP.out))
       clear hm hmd)
    | fail)
  have hbit : Bm.bit (Bm.setW n W1 b (b + 1) true) b = true := by rw [Bm.setW_bit HM2.out.ok (by have := HBN.out; omega), if_pos (by omega)]
  obtain ⟨W2, hW2⟩ : ∃ W2, W2 = Bm.setW n W1 b (b + 1) true := ⟨_, rfl⟩
  rw [← hW2] at hbit HM3
  clear hW2
  have hte := test_calls HM3.out HBN.out
  rw [hbit] at hte
  have HTE := Lib.hid hte
  clear hte
  go_upto_region 9 with (first
    | (go_at_call 29; refine HTE.out.out.mono ?_; clear HTE; rintro e w4 ⟨rfl, hbw⟩
       have HM4 := Lib.hid (HM3.out.below hbw)
       have HB4 : Hid (Below w.heap.size w w4) := Lib.hid (HB3.out.trans (hbw.mono HB3.out.size))
       clear hbw)
    | fail)
  go_upto_region 10 with (first
    | (go_at_call 30; refine (levels_calls HM4.out).out.mono ?_; rintro e w5 ⟨rfl, hbw⟩
       have HM5 := Lib.hid (HM4.out.below hbw)
       have HB5 : Hid (Below w.heap.size w w5) := Lib.hid (HB4.out.trans (hbw.mono HB4.out.size))
       clear hbw)
    | fail)
  have hnx := next_calls HM5.out (HT.out.below HB5.out) (wf_nat (n := b) (by omega))
  rw [Int.toNat_natCast, ← (show Bm.IsFind (Bm.bit W2) n b (b : Int) from .inr ⟨b, rfl, Nat.le_refl _, HBN.out, hbit, fun t h1 h2 => by omega⟩).eq] at hnx
  have HNX := Lib.hid hnx
  clear hnx
  go_upto_region 11 with (first
    | (go_at_call 31; refine HNX.out.out.mono ?_; clear HNX; rintro e w6 ⟨rfl, hbw⟩
       have HM6 := Lib.hid (HM5.out.below hbw)
       have HB6 : Hid (Below w.heap.size w w6) := Lib.hid (HB5.out.trans (hbw.mono HB5.out.size))
       clear hbw)
    | fail)
  have HLN : Hid (W2.length = Bm.room n) := Lib.hid HM6.out.ok.len
  obtain ⟨x, hx⟩ : ∃ x, W2[b / 64]? = some x := ⟨_, List.getElem?_eq_getElem (by have := Bm.room_lt HBN.out; rw [HLN.out]; exact this)⟩
  have hxb : x.toNat.testBit (b % 64) = true := by rw [← hbit, Bm.bit, List.getD_eq_getElem?_getD, hx]; rfl
  have hx1 := shr_one x.toNat_lt hxb
  have hrl := HM6.out.room_le.1
  obtain ⟨R, hR⟩ : ∃ R, R = Bm.room n := ⟨_, rfl⟩
  have hq : b / 64 < R := by rw [hR]; exact Bm.room_lt HBN.out
  rw [← hR] at HLN hrl
  have hq0 : 0 ≤ (b : Int) / 64 := by omega
  have hq1 : (b : Int) / 64 < (R : Int) := by omega
  have hq2 : ((b : Int) / 64).toNat = b / 64 := by omega
  have HX := Lib.hid hx
  clear hx hxb hR hq hrl
  go_upto_region 12 with (first
    | (go_at_call 32; refine (words_calls HM6.out).mono ?_; rintro e w7 ⟨v7, rfl, g, hv7, hrw, hgs, hbw⟩
       rw [HLN.out] at hv7
       subst hv7
       have cx := hrw.cell (i := b / 64) (v := uv x) (by simp [HX.out])
       have HM7 := Lib.hid (HM6.out.below hbw)
       have HB7 : Hid (Below w.heap.size w w7) := Lib.hid (HB6.out.trans (hbw.mono HB6.out.size))
       have lg := heap_lt hrw
       clear hrw hgs hbw)
    | fail)
  have HBIT := Lib.hid hbit
  clear hbit
  go_upto_region 14 with (first
    | (go_at_call 33; refine (num_calls _).out.mono ?_; rintro e w8 ⟨rfl, hbw⟩
       have cx8 := ((bcell hbw).1 _ _ lg).trans cx
       have HM8 := Lib.hid (HM7.out.below hbw)
       have HB8 : Hid (Below w.heap.size w w8) := Lib.hid (HB7.out.trans (hbw.mono HB7.out.size))
       clear hbw)
    | fail)
  have hcl := clear_calls HM8.out HBN.out
  rw [HBIT.out] at hcl
  have HCL := Lib.hid hcl
  clear hcl cx cx8 hx1 HX lg
  go_upto_region 15 with (first
    | (go_at_call 34; refine HCL.out.mono ?_; clear HCL; rintro e w9 ⟨rfl, hm, hmd⟩
       have HM9 := Lib.hid hm
       have HB9 : Hid (Below w.heap.size w w9) := Lib.hid (HB8.out.trans (hmd.below HB8.out.size HP.out))
       clear hm hmd)
    | fail)
  have hbit3 : Bm.bit (Bm.setW n W2 b (b + 1) false) b = false := by rw [Bm.setW_bit HM8.out.ok (by have := HBN.out; omega), if_pos (by omega)]
  obtain ⟨W3, hW3⟩ : ∃ W3, W3 = Bm.setW n W2 b (b + 1) false := ⟨_, rfl⟩
  rw [← hW3] at hbit3 HM9
  clear hW3
  have hte := test_calls HM9.out HBN.out
  rw [hbit3] at hte
  have HTE := Lib.hid hte
  clear hte
  go_upto_region 16 with (first
    | (go_at_call 29; refine HTE.out.out.mono ?_; clear HTE; rintro e w10 ⟨rfl, hbw⟩
       have HM10 := Lib.hid (HM9.out.below hbw)
       have HB10 : Hid (Below w.heap.size w w10) := Lib.hid (HB9.out.trans (hbw.mono HB9.out.size))
       clear hbw)
    | fail)
  go_upto_region 17 with (first
    | (go_at_call 30; refine (levels_calls HM10.out).out.mono ?_; rintro e w11 ⟨rfl, hbw⟩
       have HM11 := Lib.hid (HM10.out.below hbw)
       have HB11 : Hid (Below w.heap.size w w11) := Lib.hid (HB10.out.trans (hbw.mono HB10.out.size))
       clear hbw)
    | fail)
  have hnc := nextclear_calls HM11.out (HT.out.below HB11.out) (wf_nat (n := b) (by omega))
  rw [Int.toNat_natCast, ← (show Bm.IsFind (fun t => !Bm.bit W3 t) n b (b : Int) from .inr ⟨b, rfl, Nat.le_refl _, HBN.out, by show (!Bm.bit W3 b) = true; rw [hbit3]; rfl, fun t h1 h2 => by omega⟩).eq] at hnc
  have HNC := Lib.hid hnc
  clear hnc
  go_upto_region 18 with (first
    | (go_at_call 35; refine HNC.out.out.mono ?_; clear HNC; rintro e w12 ⟨rfl, hbw⟩
       have HM12 := Lib.hid (HM11.out.below hbw)
       have HB12 : Hid (Below w.heap.size w w12) := Lib.hid (HB11.out.trans (hbw.mono HB11.out.size))
       clear hbw)
    | fail)
  have HLN3 : Hid (W3.length = R) := Lib.hid (by rw [HM12.out.ok.len, ← HM8.out.ok.len]; exact HLN.out)
  obtain ⟨y, hy⟩ : ∃ y, W3[b / 64]? = some y := ⟨_, List.getElem?_eq_getElem (by rw [HLN3.out]; omega)⟩
  have hyb : y.toNat.testBit (b % 64) = false := by rw [← hbit3, Bm.bit, List.getD_eq_getElem?_getD, hy]; rfl
  have hy1 := shr_zero y.toNat_lt hyb
  have HY := Lib.hid hy
  clear hy hyb hbit3
  go_upto_region 19 with (first
    | (go_at_call 32; refine (words_calls HM12.out).mono ?_; rintro e w13 ⟨v13, rfl, g2, hv13, hrw, hgs, hbw⟩
       rw [HLN3.out] at hv13
       subst hv13
       have cy := hrw.cell (i := b / 64) (v := uv y) (by simp [HY.out])
       have HM13 := Lib.hid (HM12.out.below hbw)
       have HB13 : Hid (Below w.heap.size w w13) := Lib.hid (HB12.out.trans (hbw.mono HB12.out.size))
       have lg2 := heap_lt hrw
       clear hrw hgs hbw)
    | fail)
  have hnum := fun (w : World) (e : Int) => num_calls (w := w) e
  have HNa := Lib.hid hnum
  have HNb := Lib.hid hnum
  clear hnum
  go_upto_region 21 with (first
    | (go_at_call 33; refine (HNa.out w13 _).out.mono ?_; clear HNa; rintro e w14 ⟨rfl, hbw⟩
       have cy14 := ((bcell hbw).1 _ _ lg2).trans cy
       have lg14 := Nat.lt_of_lt_of_le lg2 hbw.size
       have HM14 := Lib.hid (HM13.out.below hbw)
       have HB14 : Hid (Below w.heap.size w w14) := Lib.hid (HB13.out.trans (hbw.mono HB13.out.size))
       clear hbw cy lg2)
    | (go_at_call 33; refine (HNb.out w14 _).out.mono ?_; clear HNb; rintro e w15 ⟨rfl, hbw⟩
       have cy15 := ((bcell hbw).1 _ _ lg14).trans cy14
       have HM15 := Lib.hid (HM14.out.below hbw)
       have HB15 : Hid (Below w.heap.size w w15) := Lib.hid (HB14.out.trans (hbw.mono HB14.out.size))
       clear hbw cy14 lg14)
    | fail)
  clear cy15 hy1 HY
  have hen := ends_calls HM15.out (HT.out.below HB15.out) HFN.out
  have HEN := Lib.hid hen
  clear hen
  go_wp2_with (first
    | (go_at_call 36; refine HEN.out.out.mono ?_; rintro e w16 ⟨rfl, hbw⟩)
    | fail)
  go_ret
  exact ⟨rfl, HB15.out.trans (hbw.mono HB15.out.size)⟩
end Go.Proofs.YtckbckdaffdjmaaDoor

/- The statement BitmapTwoLevels: every input. -/
namespace Go.Proofs.YtckbckdaffdjmaaDoor
open Go.RowKit
set_option maxRecDepth 100000
set_option linter.unusedVariables false
set_option linter.unusedSimpArgs false

set_option maxHeartbeats 8000000 in
theorem twolevels_calls {w : World} {n b f : Int} {v sv : Value} {V : List UInt64} {ops : List OpV} (hn : (Lit.int .i64 n).wf = true) (hv : RU w v V) (hs : SlOp w sv ops) (hT : Tz w) :
    Pur Tryd.prog 5 #[.int .i64 n, v, sv, .int .i64 b, .int .i64 f] w (.bool true) := by
  by_cases hl : Bm.listedB n V = true
  · have hl2 := hl
    unfold Bm.listedB at hl2
    simp only [Bool.and_eq_true, decide_eq_true_eq, beq_iff_eq] at hl2
    obtain ⟨m, rfl⟩ : ∃ m : Nat, n = m := ⟨n.toNat, by omega⟩
    rw [Int.toNat_natCast] at hl2
    have hok := Bm.ok_of_valid (by omega) (by omega) hl2.2
    by_cases h1 : 0 ≤ b ∧ b < m ∧ 0 ≤ f ∧ f < m
    · obtain ⟨b, rfl⟩ : ∃ k : Nat, b = k := ⟨b.toNat, by omega⟩
      obtain ⟨f, rfl⟩ : ∃ k : Nat, f = k := ⟨f.toNat, by omega⟩
      exact twolevels_main hok hv hs hT (by omega) (by omega)
    · unfold Pur
      have hli := lawlisted_calls hv hn
      rw [hl] at hli
      have HLI := Lib.hid hli
      obtain ⟨vp, vc, hve⟩ := hv.form
      generalize V.length = VL at hve
      subst hve
      clear hv hs hT hli hl hl2 hok hn
      go_enter Tryd.func5, Tryd.ntmps5
      by_cases e1 : b < 0
      · clear h1
        go_wp2_with (first | (go_at_call 26; refine HLI.out.out.mono ?_; rintro e w1 ⟨rfl, hbw⟩) | fail)
        go_ret
        exact ⟨rfl, hbw⟩
      · by_cases e2 : (m : Int) ≤ b
        · clear h1
          go_wp2_with (first | (go_at_call 26; refine HLI.out.out.mono ?_; rintro e w1 ⟨rfl, hbw⟩) | fail)
          go_ret
          exact ⟨rfl, hbw⟩
        · have e2' : b < (m : Int) := by omega
          have e1' : 0 ≤ b := by omega
          by_cases e3 : f < 0
          · clear h1
            go_wp2_with (first | (go_at_call 26; refine HLI.out.out.mono ?_; rintro e w1 ⟨rfl, hbw⟩) | fail)
            go_ret
            exact ⟨rfl, hbw⟩
          · have e4 : (m : Int) ≤ f := by omega
            have e3' : 0 ≤ f := by omega
            clear h1
            go_wp2_with (first | (go_at_call 26; refine HLI.out.out.mono ?_; rintro e w1 ⟨rfl, hbw⟩) | fail)
            go_ret
            exact ⟨rfl, hbw⟩
  · have hl' : Bm.listedB n V = false := by simpa using hl
    unfold Pur
    have hli := lawlisted_calls hv hn
    rw [hl'] at hli
    have HLI := Lib.hid hli
    obtain ⟨vp, vc, hve⟩ := hv.form
    generalize V.length = VL at hve
    subst hve
    clear hv hs hT hli hl hl' hn
    go_enter Tryd.func5, Tryd.ntmps5
    go_wp2_with (first | (go_at_call 26; refine HLI.out.out.mono ?_; rintro e w1 ⟨rfl, hbw⟩) | fail)
    go_ret
    exact ⟨rfl, hbw⟩
end Go.Proofs.YtckbckdaffdjmaaDoor

/- Scripts that came in; the library's table, as the row lays it. -/
namespace Go.Proofs.YtckbckdaffdjmaaDoor
open Go.RowKit Go.ChangeShapes
set_option maxRecDepth 100000
set_option linter.unusedVariables false
set_option linter.unusedSimpArgs false

theorem ops_tu : Tryd.prog.underlying 49 = some (.slice 39) := by kernel_rfl
theorem acts_tu : Tryd.prog.underlying 37 = some (.slice 134) := by kernel_rfl
theorem op_c : Tryd.prog.cellsOf 39 = 8 := by kernel_rfl
theorem op_b : Tryd.prog.bytesOf 39 = 112 := by kernel_rfl
theorem op_leaves : leaves Tryd.prog 10 39 = some [.int .i64, .bool, .int .i64, .int .i64, .other 22, .other 37, .other 37, .bool] := by kernel_rfl
section
variable {H : Type} {enc : TypeId × Value → H} {W : World} {b base : Nat} {spare : Nat → Bool} {held : Bool}
theorem acts_one {fuel : Nat} {v : Value} {x : DataW H × List MemPlace} (h : DataW.trod enc Tryd.prog W base spare held fuel 37 [v] = some x) : v.oneCell' = true := by
  rcases Go.Deep.open_slice acts_tu h with ⟨hcs, hx⟩ | ⟨a, len, cap, m, k, D, Pl, hcs, _⟩
  · simp only [List.cons.injEq, and_true] at hcs
    subst hcs; rfl
  · simp only [List.cons.injEq, and_true] at hcs
    subst hcs; rfl
theorem op_of_leaves {cs : List Value} (hl : LeavesW enc Tryd.prog W base spare held reachBytes [.int .i64, .bool, .int .i64, .int .i64, .other 22, .other 37, .other 37, .bool] cs) : ∃ o : OpV, cs = opL o ∧ OkOp W o := by
  obtain ⟨k, _, rfl, hk, hl1⟩ := hl.int
  obtain ⟨s, _, rfl, hl2⟩ := hl1.bool
  obtain ⟨a, _, rfl, ha, hl3⟩ := hl2.int
  obtain ⟨c, _, rfl, hc, hl4⟩ := hl3.int
  obtain ⟨wv, _, rfl, ⟨f1, x1, hx1, hw1⟩, hl5⟩ := hl4.other
  obtain ⟨bv, _, rfl, ⟨f2, x2, hx2, hw2⟩, hl6⟩ := hl5.other
  obtain ⟨av, _, rfl, ⟨f3, x3, hx3, hw3⟩, hl7⟩ := hl6.other
  obtain ⟨g, _, rfl, hl8⟩ := hl7.bool
  obtain rfl := hl8.unnil
  obtain ⟨l, hr, hlen⟩ := ru_of_trod hx1 hw1
  exact ⟨⟨k, s, a, c, l, wv, bv, av, g⟩, rfl, hk, ha, hc, hr, hlen, acts_one hx2, acts_one hx3⟩
theorem range_of_cells {g o n sz : Nat} {spot : Option _} {cs : List Value} (hs : spot = none) (h : W.cells? base ((⟨g, o, spot⟩ : Addr).add n) sz = some cs) : W.rangeAt g (o + n) cs := by
  subst hs
  obtain ⟨_, hlen, hc⟩ := World.cells?_some h
  intro j u hu
  have hj : j < sz := by rw [← hlen]; exact (List.getElem?_eq_some_iff.1 hu).1
  have := hc j hj
  rw [add_flat, add_flat] at this
  rw [this]; exact hu
theorem weights_elem {t e : TypeId} {D : Nat → DataW H} {len : Nat} {spr : List (DataW H)} (ht : Tryd.prog.underlying t = some (.slice e)) (hw : ∀ n ∈ (DataW.slice ((List.range len).map D) spr).weights Tryd.prog t, n ≤ reachBytes) {i : Nat} (hi : i < len) : ∀ n ∈ (D i).weights Tryd.prog e, n ≤ reachBytes := by
  intro n hn
  refine hw n ?_
  simp only [DataW.weights, ht, List.mem_cons, List.mem_append]
  right; left
  exact weights_mem_all (j := i) (by rw [List.getElem?_map, List.getElem?_range hi]; rfl) n hn
/-- A script that came in. -/
theorem open_ops {v : Value} {d : DataW H} {ps : List MemPlace} (hv : Value.okWide Tryd.prog W .any b 49 v) (h : DataW.Trod enc Tryd.prog W base spare held 49 v d ps) (hw : ∀ n ∈ d.weights Tryd.prog 49, n ≤ reachBytes) :
    ∃ l : List OpV, SlOp W v l := by
  obtain ⟨pa, n, cp, rfl⟩ := Go.WideShapes.okWide_slice ops_tu hv
  obtain ⟨fuel, hf⟩ := h
  rcases Go.Deep.open_slice ops_tu hf with ⟨hcs, hx⟩ | ⟨a, len, cap, m, k, D, Pl, hcs, hba, hl, hm, hmm, hx, hall⟩
  · simp [Value.cells] at hcs
    obtain ⟨rfl, rfl, rfl⟩ := hcs
    exact ⟨[], none, 0, rfl, by simp, fun i p hp => by simp at hp⟩
  · simp [Value.cells] at hcs
    obtain ⟨rfl, rfl, rfl⟩ := hcs
    simp only [Prod.mk.injEq] at hx
    obtain ⟨rfl, _⟩ := hx
    have hlm : n ≤ m := by rw [hmm]; split <;> omega
    have hn : n ≤ 1256584717715 := by
      have := hw ((n + (m - n)) * Tryd.prog.bytesOf 39) (by simp [DataW.weights, ops_tu])
      rw [op_b] at this
      simp only [reachBytes] at this
      omega
    rw [op_c] at hall
    have hE : ∀ i, i < n → ∃ o : OpV, OkOp W o ∧ W.cells? base (a.add (i * 8)) 8 = some (opL o) := fun i hi => by
      obtain ⟨cs, hc, ht⟩ := hall i (by omega)
      obtain ⟨o, rfl, h1⟩ := op_of_leaves (leaves_okW 10 _ _ _ _ _ op_leaves ht (weights_elem ops_tu hw hi))
      exact ⟨o, h1, hc⟩
    haveI : Inhabited OpV := ⟨⟨0, false, 0, 0, [], .slice none 0 0, .slice none 0 0, .slice none 0 0, false⟩⟩
    obtain ⟨y, hy⟩ := Go.Deep.choose_lt (α := OpV) (p := fun i y => OkOp W y ∧ W.cells? base (a.add (i * 8)) 8 = some (opL y)) hE
    have hll : ((List.range n).map y).length = n := by simp
    refine ⟨(List.range n).map y, some a, cp, by rw [hll], by rw [hll]; exact hn, fun i p hp => ?_⟩
    have hi : i < n := by have := (List.getElem?_eq_some_iff.1 hp).1; rwa [hll] at this
    rw [List.getElem?_map, List.getElem?_range hi] at hp
    have hp : y i = p := by simpa using hp
    subst hp
    obtain ⟨h1, h2⟩ := hy i hi
    obtain ⟨_, _, hc0⟩ := World.cells?_some (hy 0 (by omega)).2
    have h00 := hc0 0 (by decide)
    have hsp := World.cell?_spot (w := W) (a := (a.add (0 * 8)).add 0) (v := .int .i64 (y 0).kind) (by rw [h00]; rfl)
    obtain ⟨g, off, spot⟩ := a
    have hspot : spot = none := by simpa [Addr.add] using hsp
    subst hspot
    have hr := range_of_cells rfl h2
    exact ⟨g, off, rfl, cell_lt (hr 0 _ rfl), h1, hr⟩
end
end Go.Proofs.YtckbckdaffdjmaaDoor

/- The library's table, as the row lays it. -/
namespace Go.Proofs.YtckbckdaffdjmaaDoor
open Go.RowKit
set_option maxRecDepth 100000
set_option linter.unusedVariables false
set_option linter.unusedSimpArgs false

section
variable {H : Type} {enc : TypeId × Value → H} {P : Program} {w : World} {base : Nat} {sp : Nat → Bool} {held : Bool} {fuel : Nat}
theorem lit_cell {e : TypeId} {c : Value} {x : DataW H × List MemPlace} {l : Lit} (he : (∃ k, P.underlying e = some (.int k)) ∨ P.underlying e = some .string)
    (h : DataW.trod enc P w base sp held fuel e [c] = some x) (hx : x.1 = .lit l) : c = l.value := by
  rcases he with ⟨k, he⟩ | he
  · obtain ⟨n, hc, hxx, _⟩ := DataW.trod_int he h
    simp only [List.cons.injEq, and_true] at hc
    subst hc
    rw [hxx] at hx
    cases hx
    rfl
  · obtain ⟨s, hc, hxx, _⟩ := DataW.trod_string he h
    simp only [List.cons.injEq, and_true] at hc
    subst hc
    rw [hxx] at hx
    cases hx
    rfl
theorem lits_cells {t e : TypeId} {n : Nat} {cs : List Value} {x : DataW H × List MemPlace} (hu : P.underlying t = some (.array n e)) (hc : P.cellsOf e = 1) (hct : P.cellsOf t = n)
    (he : (∃ k, P.underlying e = some (.int k)) ∨ P.underlying e = some .string) (h : DataW.trod enc P w base sp held fuel t cs = some x) (ls : List Lit) (hx : x.1 = .agg (ls.map .lit)) :
    cs = ls.map Lit.value := by
  obtain ⟨xs, m, rfl, rfl, hl, hn, hel⟩ := DataW.trod_array hu h
  have hxs : xs.map (·.1) = ls.map .lit := by simpa using hx
  have hlen : ls.length = n := by have := congrArg List.length hxs; simp at this; omega
  apply List.ext_getElem?
  intro i
  by_cases hi : i < n
  · have h1 := hel i hi
    rw [hc, Nat.mul_one] at h1
    have hci : i < cs.length := by omega
    have e1 : (cs.drop i).take 1 = [cs[i]] := by rw [List.drop_eq_getElem_cons hci]; rfl
    rw [e1, List.getElem?_eq_getElem (by omega)] at h1
    have h2 : xs[i].1 = .lit ls[i] := by
      have := congrArg (fun l => l[i]?) hxs
      simpa [List.getElem?_map, List.getElem?_eq_getElem (show i < xs.length by omega), List.getElem?_eq_getElem (show i < ls.length by omega)] using this
    rw [List.getElem?_eq_getElem hci, List.getElem?_map, List.getElem?_eq_getElem (show i < ls.length by omega), lit_cell he h1 h2]
    rfl
  · rw [List.getElem?_eq_none (by omega), List.getElem?_eq_none (by simp; omega)]
/-- A laid variable's cells. -/
theorem laid_var {n : String} {d : DataW Unit} {r : List (String × DataW Unit)} {ps : List MemPlace} (h : DataW.LaidVars P w ((n, d) :: r) ps) {g : Nat} {t e : TypeId} {m : Nat} (ls : List Lit) (hg : P.globalNamed n = some g)
    (ht : (P.globals[g]?).map (·.type) = some t) (hu : P.underlying t = some (.array m e)) (hc : P.cellsOf e = 1) (hct : P.cellsOf t = m) (he : (∃ k, P.underlying e = some (.int k)) ∨ P.underlying e = some .string) (hd : d = .agg (ls.map .lit)) :
    (∀ i l, ls[i]? = some l → w.cell? ⟨g, i, none⟩ = some l.value) ∧ ∃ ps', DataW.LaidVars P w r ps' := by
  obtain ⟨g', t', cs, fuel, p, q, hg', ht', hv, htr, hr, _⟩ := h
  obtain rfl : g = g' := Option.some.inj (hg.symm.trans hg')
  obtain rfl : t = t' := Option.some.inj (ht.symm.trans ht')
  have hcs := lits_cells hu hc hct he htr ls hd
  refine ⟨fun i l hl => ?_, _, hr⟩
  rw [World.var?_cell hg hv i, ← Array.getElem?_toList, hcs, List.getElem?_map, hl]
  rfl
theorem laid_of {laid : List (String × DataW Unit)} (hp : (laid.all fun x => x.2.handleName?.isNone) = true) (h : laidMetH P laid w) : ∃ ps, DataW.LaidVars P w laid ps := by
  rw [MakeChecks.laidMetH_plain _ _ _ hp] at h
  obtain ⟨ps, h, _⟩ := h
  exact ⟨ps, h⟩
end
theorem tz_of {W : World} (h : laidMetH Tryd.prog [("math/bits.deBruijn64tab", Rows.laid_math_bits_deBruijn64tab)] W) : Tz W := by
  obtain ⟨ps, h⟩ := laid_of (by kernel_rfl) h
  obtain ⟨h1, -⟩ := laid_var h (g := 0) (Lib.deBruijn64tab.map fun c : Nat => Lit.int .u8 (c : Int)) (by kernel_rfl) (t := 130) (by kernel_rfl) (e := 5) (m := 64) (by kernel_rfl) (by kernel_rfl) (by kernel_rfl) (.inl ⟨.u8, by kernel_rfl⟩) rfl
  intro j hj
  refine (h1 j (.int .u8 ((Lib.deBruijn64tab.getD j 0 : Nat) : Int)) ?_).trans rfl
  rw [List.getElem?_map, List.getElem?_eq_getElem hj, List.getD_eq_getElem?_getD, List.getElem?_eq_getElem hj]; rfl
section
open Go.ChangeShapes
variable {H : Type} {enc : TypeId × Value → H} {P : Program} {W : World} {base : Nat} {spare : Nat → Bool} {held : Bool}
theorem trodAll_fiveU {t0 t1 t2 t3 t4 : TypeId} {args : Array Value} {ds : List (DataW H)} {ps : List MemPlace} (h : DataW.TrodAll enc P W base spare held [t0, t1, t2, t3, t4] args.toList ds ps) :
    ∃ v0 v1 v2 v3 v4 d0 d1 d2 d3 d4 p0 p1 p2 p3 p4, args = #[v0, v1, v2, v3, v4] ∧ ds = [d0, d1, d2, d3, d4] ∧ DataW.Trod enc P W base spare held t0 v0 d0 p0 ∧ DataW.Trod enc P W base spare held t1 v1 d1 p1 ∧ DataW.Trod enc P W base spare held t2 v2 d2 p2 ∧ DataW.Trod enc P W base spare held t3 v3 d3 p3 ∧ DataW.Trod enc P W base spare held t4 v4 d4 p4 := by
  obtain ⟨v0, x0, d0, y0, p0, q0, hargs, rfl, rfl, h0, r0⟩ := trodAll_cons h
  obtain ⟨v1, x1, d1, y1, p1, q1, rfl, rfl, rfl, h1, r1⟩ := trodAll_cons r0
  obtain ⟨v2, x2, d2, y2, p2, q2, rfl, rfl, rfl, h2, r2⟩ := trodAll_cons r1
  obtain ⟨v3, x3, d3, y3, p3, q3, rfl, rfl, rfl, h3, r3⟩ := trodAll_cons r2
  obtain ⟨v4, x4, d4, y4, p4, q4, rfl, rfl, rfl, h4, r4⟩ := trodAll_cons r3
  obtain ⟨rfl, rfl, rfl⟩ := trodAll_nil r4
  exact ⟨v0, v1, v2, v3, v4, d0, d1, d2, d3, d4, p0, p1, p2, p3, p4, by cases args; simp_all, rfl, h0, h1, h2, h3, h4⟩
end
end Go.Proofs.YtckbckdaffdjmaaDoor
