/- The document's own reading: does a packet fit? (Printed by wip/w7gen/mkrffits.py.) -/
import Derived.Test.YtbgfoobcpacfeaaDoorPk8
import Derived.Test.YtbgfoobcpacfeaaDoorRfSum
namespace Go.Proofs.YtbgfoobcpacfeaaDoor
open Go.RowKit
set_option maxRecDepth 100000
set_option linter.unusedVariables false
set_option linter.unusedSimpArgs false

namespace Wi
def rOkN (p : Pk) (c k : Nat) : Bool := if rHas c (2 ^ k) then rInside (p.num k : Nat) (rNumbers c (2 ^ k : Nat) p) else ((p.num k : Nat) : Int) == 0
def rOkG (p : Pk) (c : Nat) : Bool := rHas c 32 || (((p.g1 : Nat) : Int) == 0 && ((p.g2 : Nat) : Int) == 0 && ((p.g3 : Nat) : Int) == 0 && ((p.g4 : Nat) : Int) == 0)
def rOkS (p : Pk) (c : Nat) : Bool := (rHas c 64 && !(((c : Nat) : Int) == 15 && ((p.flags : Nat) : Int) == 1)) || decide (p.sum = zeros)
def rOkD (p : Pk) (c : Nat) : Bool := if rHas c 128 then rInside (p.data.length : Nat) (rLengths c p) else ((p.data.length : Nat) : Int) == 0
def rFits (p : Pk) (c : Nat) : Bool := (List.range 5).all (rOkN p c) && rOkG p c && rOkS p c && rOkD p c
end Wi
/-- The world holds the five numbers of the fields. -/
def Fives (w : World) : Prop := Lies 1 ([1, 2, 4, 8, 16].map fun n => .int .i64 (n : Nat)) w
theorem Fives.at_ {w : World} (h : Fives w) (k : Nat) (hk : k < 5) : w.cell? ⟨1, k, none⟩ = some (.int .i64 (2 ^ k : Nat)) := by
  rcases k with _ | _ | _ | _ | _ | k
  · exact h.2 0 _ rfl
  · exact h.2 1 _ rfl
  · exact h.2 2 _ rfl
  · exact h.2 3 _ rfl
  · exact h.2 4 _ rfl
  · omega
theorem rfield_enter : Og.Enters Tryd.prog 46 := fun args w => by kernel_rfl
theorem rnumbers_enter : Og.Enters Tryd.prog 84 := fun args w => by kernel_rfl
theorem rlengths_enter : Og.Enters Tryd.prog 86 := fun args w => by kernel_rfl
theorem rinside_enter : Og.Enters Tryd.prog 83 := fun args w => by kernel_rfl
theorem rhas_enter : Og.Enters Tryd.prog 44 := fun args w => by kernel_rfl
theorem rzeroes_enter : Og.Enters Tryd.prog 85 := fun args w => by kernel_rfl

theorem ld_u64 {w : World} {g o x : Nat} (h : w.cell? ⟨g, o, none⟩ = some (.int .u64 x)) : (Instr.loadAt 28 (.pointer (some ⟨g, o, none⟩))).run Tryd.prog w = .ok (.int .u64 x) w := by
  go_simp
theorem ld_u32 {w : World} {g o x : Nat} (h : w.cell? ⟨g, o, none⟩ = some (.int .u32 x)) : (Instr.loadAt 27 (.pointer (some ⟨g, o, none⟩))).run Tryd.prog w = .ok (.int .u32 x) w := by
  go_simp
theorem ld_sl {w : World} {g o : Nat} {a : Option Addr} {n m : Nat} (h : w.cell? ⟨g, o, none⟩ = some (.slice a n m)) : (Instr.loadAt 32 (.pointer (some ⟨g, o, none⟩))).run Tryd.prog w = .ok (.slice a n m) w := by
  go_simp
theorem len_by (w : World) (a : Option Addr) (m k : Nat) : (Builtin.len_ #[32] 3 #[.slice a m k]).run Tryd.prog w = .ok (.int .i64 m) w := by
  simp [Builtin.len_, run_underlying by_tu, goInt, Builtin.lenOf]

/-- The loop of 'fits', behind i fields. -/
def FitI (p : Wi.Pk) (pv : Value) (c A : Nat) (w1 : World) (i : Nat) (a : Act) (w' : World) : Prop :=
  (∃ U : Nat → Value, a = ⟨#[U 0, .pointer (some ⟨A, 0, none⟩), .bool false, .int .i64 c, .int .i64 i, U 5, U 6, U 7, U 8, U 9, U 10, U 11, U 12, U 13, U 14, U 15, U 16, U 17, U 18, U 19, U 20, U 21, U 22, U 23, U 24, U 25, U 26, U 27, U 28, U 29, U 30, U 31, U 32, U 33, U 34, U 35, U 36, U 37, U 38, U 39, U 40, U 41, U 42, U 43, U 44, U 45, U 46, U 47, U 48, U 49, U 50, U 51, U 52, U 53, U 54, U 55, U 56, U 57, U 58, U 59, U 60, U 61, U 62, U 63, U 64, U 65, U 66, U 67, U 68, U 69, U 70, U 71, U 72, U 73, U 74, U 75, U 76, U 77, U 78, U 79, U 80, U 81, U 82, U 83, U 84, U 85, U 86, U 87], []⟩) ∧ (List.range i).all (Wi.rOkN p c) = true ∧ PkAt w' A p pv ∧ Below A w1 w' ∧ A ≤ w'.heap.size

set_option maxHeartbeats 16000000 in
theorem rfits_calls {w : World} {pv : Value} {p : Wi.Pk} (hp : p.Ok) (hr : RB w pv p.data) (c : Nat) (hc : c < 26) (hcm : p.cmd = c) (hC : Cars w) (h5 : Fives w) : Pur Tryd.prog 43 #[.agg (pkL p pv).toArray] w (.bool (Wi.rFits p c)) := by
  unfold Pur
  have hP1 : PkAt (w.alloc (.cells (pkL p pv).toArray 34)) w.heap.size p pv := heap_new w _ _ rfl
  have hb1 := below_alloc1 w (.cells (pkL p pv).toArray 34)
  generalize hca : (pkL p pv).toArray = ca at hP1 hb1 ⊢
  have hA : w.heap.size = w.heap.size := rfl
  have c0 := hP1.c0
  rw [hcm] at c0
  have hlt := hP1.lt
  have hcb : ∀ w', Below w.heap.size w w' → Cars w' ∧ Fives w' := fun w' hb => ⟨Lies.below hC hb, Lies.below h5 hb⟩
  have hrb : ∀ w', Below w.heap.size w w' → RB w' pv p.data := fun w' hb => hr.below hb
  clear hC h5 hr
  go_enter Tryd.func43, Tryd.ntmps43
  go_wp2_with fail
  rw [← hca] at hP1 hb1 ⊢
  clear hca hlt c0
  generalize w.alloc (.cells (pkL p pv).toArray 34) = w1 at *
  refine wp_loop_count (FitI p pv c w.heap.size w) 5 ⟨exU (fun U => ⟨#[U 0, .pointer (some ⟨w.heap.size, 0, none⟩), .bool false, .int .i64 c, .int .i64 0, U 5, U 6, U 7, U 8, U 9, U 10, U 11, U 12, U 13, U 14, U 15, U 16, U 17, U 18, U 19, U 20, U 21, U 22, U 23, U 24, U 25, U 26, U 27, U 28, U 29, U 30, U 31, U 32, U 33, U 34, U 35, U 36, U 37, U 38, U 39, U 40, U 41, U 42, U 43, U 44, U 45, U 46, U 47, U 48, U 49, U 50, U 51, U 52, U 53, U 54, U 55, U 56, U 57, U 58, U 59, U 60, U 61, U 62, U 63, U 64, U 65, U 66, U 67, U 68, U 69, U 70, U 71, U 72, U 73, U 74, U 75, U 76, U 77, U 78, U 79, U 80, U 81, U 82, U 83, U 84, U 85, U 86, U 87], []⟩) rfl, rfl, hP1, hb1, hb1.size⟩ ?_ ?_
  · clear hP1 hb1
    rintro i a w' hi ⟨⟨U, rfl⟩, hall, hP, hb, hAw⟩
    have hi0 : (0 : Int) ≤ (i : Int) := Int.natCast_nonneg i
    have hi5 : (i : Int) < 5 := by omega
    have hw6 : IntKind.i64.wrap ((i : Int) + 1) = (i : Int) + 1 := IntWalk.i64_in _ ⟨by omega, by omega⟩
    have hcell := (hcb _ hb).2.at_ i hi
    have hg1 := (hcb _ hb).2.1
    have Hnx : Hid ((List.range (i + 1)).all (Wi.rOkN p c) = Wi.rOkN p c i) := by
      show _ = _
      rw [List.range_succ, List.all_append, hall]
      simp
    have Hno : Hid (Wi.rOkN p c i = false → Wi.rFits p c = false) := by
      intro h
      have : (List.range 5).all (Wi.rOkN p c) = false := by
        cases e : (List.range 5).all (Wi.rOkN p c)
        · rfl
        · rw [List.all_eq_true] at e
          rw [e i (List.mem_range.2 hi)] at h
          cases h
      unfold Wi.rFits
      rw [this]; rfl
    have Hok : Hid (Wi.rOkN p c i = if Wi.rHas c (2 ^ i) then Wi.rInside (p.num i : Nat) (Wi.rNumbers c (2 ^ i : Nat) p) else ((p.num i : Nat) : Int) == 0) := rfl
    have hfld := fun w2 => rfield_calls (w := w2) (pv := pv) hp i hi
    have hhas := fun (w2 : World) (h2 : Cars w2) => rhas_calls (w := w2) h2 c (2 ^ i) hc (Nat.pow_pos (by decide)) (by
      have := Nat.pow_le_pow_right (n := 2) (by decide) (show i ≤ 7 by omega)
      simpa using this)
    generalize hF0 : 2 ^ i = F at *
    generalize p.num i = x at *
    have Hfld := Lib.hid hfld
    have Hhas := Lib.hid hhas
    clear hfld hhas hF0 hall hi
    go_upto_region 6 with fail
    rename_i hnext
    refine wp_region_lit ?_
    refine Og.st_start (n := 88) rfl fun a hF => ?_
    refine Og.st_same (.agg (pkL p pv).toArray) hF rfl rfl (by decide) (Og.exec_load rfl (load_pk hP hp)) ?_
    clear hF a; intro a hF
    refine Og.st_same (.int .i64 F) hF rfl rfl (by decide) (by kernel_rfl) ?_
    clear hF a; intro a hF
    refine Og.st_call (f := 46) (args := #[.agg (pkL p pv).toArray, .int .i64 F]) hF rfl rfl (by decide) ((Og.exec_call rfl rfield_enter rfl _).trans (by kernel_rfl)) ((Hfld.out _).out.mono ?_)
    rintro e w2 ⟨rfl, hb2⟩
    have hP := hP.below hb2
    have hb := hb.trans (hb2.mono hAw)
    have hAw := Nat.le_trans hAw hb2.size
    clear hb2
    refine ⟨_, rfl, ?_⟩
    clear hF a; intro a hF
    refine Og.st_same (.int .i64 x) hF rfl rfl (by decide) (by kernel_rfl) ?_
    clear hF a; intro a hF
    refine wpList_nil ?_
    obtain ⟨U, rfl⟩ := Og.Fr.lit_ex hF (fun U => ⟨#[U 0, .pointer (some ⟨w.heap.size, 0, none⟩), .bool false, .int .i64 c, .int .i64 i, .int .i64 F, .int .i64 x, U 7, U 8, U 9, U 10, U 11, U 12, U 13, U 14, U 15, U 16, U 17, U 18, U 19, U 20, U 21, U 22, U 23, U 24, U 25, U 26, U 27, U 28, U 29, U 30, U 31, U 32, U 33, U 34, U 35, U 36, U 37, U 38, U 39, U 40, U 41, U 42, U 43, U 44, U 45, U 46, U 47, U 48, U 49, U 50, U 51, U 52, U 53, U 54, U 55, U 56, U 57, U 58, U 59, U 60, U 61, U 62, U 63, U 64, U 65, U 66, U 67, U 68, U 69, U 70, U 71, U 72, U 73, U 74, U 75, U 76, U 77, U 78, U 79, U 80, U 81, U 82, U 83, U 84, U 85, U 86, U 87], []⟩) (by kernel_rfl)
    clear hF hcell hg1
    refine hnext _ _ ?_
    clear hnext
    have Hx := Lib.hid (Hhas.out _ (hcb _ hb).1)
    go_wp2_with fail
    refine Hx.out.out.mono ?_
    rintro e w3 ⟨rfl, hb3⟩
    clear Hx
    have hP := hP.below hb3
    have hb := hb.trans (hb3.mono hAw)
    have hAw := Nat.le_trans hAw hb3.size
    clear hb3
    cases hh : Wi.rHas c F
    · rw [hh] at Hok
      cases hx0 : ((x : Int) == 0)
      · have hx1 : ((x : Int) != 0) = true := by rw [bne, hx0]; rfl
        have hr := Hno.out (by rw [Hok.out, if_neg (by decide)]; exact hx0)
        clear Hnx Hok
        go_wp2_with fail
        go_ret
        rw [hr]
        exact ⟨rfl, hb⟩
      · have hx1 : ((x : Int) != 0) = false := by rw [bne, hx0]; rfl
        have hn : Wi.rOkN p c i = true := by rw [Hok.out, if_neg (by decide)]; exact hx0
        have Hnx := Lib.hid (Hnx.out.trans hn)
        clear Hok Hno hn
        go_wp2_with fail
        exact ⟨exU (fun U => ⟨#[U 0, .pointer (some ⟨w.heap.size, 0, none⟩), .bool false, .int .i64 c, .int .i64 (i + 1 : Nat), U 5, U 6, U 7, U 8, U 9, U 10, U 11, U 12, U 13, U 14, U 15, U 16, U 17, U 18, U 19, U 20, U 21, U 22, U 23, U 24, U 25, U 26, U 27, U 28, U 29, U 30, U 31, U 32, U 33, U 34, U 35, U 36, U 37, U 38, U 39, U 40, U 41, U 42, U 43, U 44, U 45, U 46, U 47, U 48, U 49, U 50, U 51, U 52, U 53, U 54, U 55, U 56, U 57, U 58, U 59, U 60, U 61, U 62, U 63, U 64, U 65, U 66, U 67, U 68, U 69, U 70, U 71, U 72, U 73, U 74, U 75, U 76, U 77, U 78, U 79, U 80, U 81, U 82, U 83, U 84, U 85, U 86, U 87], []⟩) rfl, Hnx.out, hP, hb, hAw⟩
    · rw [hh] at Hok
      go_upto_region 8 with fail
      rename_i hnext
      refine wp_region_lit ?_
      refine Og.st_start (n := 88) rfl fun a hF => ?_
      refine Og.st_same (.int .i64 x) hF rfl rfl (by decide) (by kernel_rfl) ?_
      clear hF a; intro a hF
      refine Og.st_same (.int .i64 c) hF rfl rfl (by decide) (by kernel_rfl) ?_
      clear hF a; intro a hF
      refine Og.st_same (.int .i64 F) hF rfl rfl (by decide) (by kernel_rfl) ?_
      clear hF a; intro a hF
      refine Og.st_same (.agg (pkL p pv).toArray) hF rfl rfl (by decide) (Og.exec_load rfl (load_pk hP hp)) ?_
      clear hF a; intro a hF
      refine Og.st_call (f := 84) (args := #[.int .i64 c, .int .i64 F, .agg (pkL p pv).toArray]) hF rfl rfl (by decide) ((Og.exec_call rfl rnumbers_enter rfl _).trans (by kernel_rfl)) ((rnumbers_calls c F hp).mono ?_)
      rintro e w4 ⟨v, rfl, hv, hvB, hb4⟩
      have hP := hP.below hb4
      have hb := hb.trans (hb4.mono hAw)
      have hAw := Nat.le_trans hAw hb4.size
      clear hb4
      refine ⟨_, rfl, ?_⟩
      clear hF a; intro a hF
      refine Og.st_call (f := 83) (args := #[.int .i64 x, v]) hF rfl rfl (by decide) ((Og.exec_call rfl rinside_enter rfl _).trans (by kernel_rfl)) ((rinside_calls hv x).out.mono ?_)
      rintro e w5 ⟨rfl, hb5⟩
      have hP := hP.below hb5
      have hb := hb.trans (hb5.mono hAw)
      have hAw := Nat.le_trans hAw hb5.size
      clear hb5
      refine ⟨_, rfl, ?_⟩
      clear hF a; intro a hF
      refine Og.st_same (.bool (!Wi.rInside x (Wi.rNumbers c F p))) hF rfl rfl (by decide) (by kernel_rfl) ?_
      clear hF a; intro a hF
      refine wpList_nil ?_
      obtain ⟨U, rfl⟩ := Og.Fr.lit_ex hF (fun U => ⟨#[U 0, .pointer (some ⟨w.heap.size, 0, none⟩), .bool false, .int .i64 c, .int .i64 i, U 5, U 6, U 7, U 8, U 9, U 10, U 11, U 12, U 13, U 14, U 15, U 16, U 17, U 18, U 19, U 20, U 21, U 22, U 23, U 24, U 25, U 26, U 27, U 28, .bool (!Wi.rInside x (Wi.rNumbers c F p)), U 30, U 31, U 32, U 33, U 34, U 35, U 36, U 37, U 38, U 39, U 40, U 41, U 42, U 43, U 44, U 45, U 46, U 47, U 48, U 49, U 50, U 51, U 52, U 53, U 54, U 55, U 56, U 57, U 58, U 59, U 60, U 61, U 62, U 63, U 64, U 65, U 66, U 67, U 68, U 69, U 70, U 71, U 72, U 73, U 74, U 75, U 76, U 77, U 78, U 79, U 80, U 81, U 82, U 83, U 84, U 85, U 86, U 87], []⟩) (by kernel_rfl)
      clear hF
      refine hnext _ _ ?_
      clear hnext hv hvB
      cases hin : Wi.rInside x (Wi.rNumbers c F p)
      · have hr := Hno.out (by rw [Hok.out]; exact hin)
        clear Hnx Hok
        go_wp2_with fail
        go_ret
        rw [hr]
        exact ⟨rfl, hb⟩
      · have hn : Wi.rOkN p c i = true := by rw [Hok.out]; exact hin
        have Hnx := Lib.hid (Hnx.out.trans hn)
        clear Hok Hno hn
        go_wp2_with fail
        exact ⟨exU (fun U => ⟨#[U 0, .pointer (some ⟨w.heap.size, 0, none⟩), .bool false, .int .i64 c, .int .i64 (i + 1 : Nat), U 5, U 6, U 7, U 8, U 9, U 10, U 11, U 12, U 13, U 14, U 15, U 16, U 17, U 18, U 19, U 20, U 21, U 22, U 23, U 24, U 25, U 26, U 27, U 28, U 29, U 30, U 31, U 32, U 33, U 34, U 35, U 36, U 37, U 38, U 39, U 40, U 41, U 42, U 43, U 44, U 45, U 46, U 47, U 48, U 49, U 50, U 51, U 52, U 53, U 54, U 55, U 56, U 57, U 58, U 59, U 60, U 61, U 62, U 63, U 64, U 65, U 66, U 67, U 68, U 69, U 70, U 71, U 72, U 73, U 74, U 75, U 76, U 77, U 78, U 79, U 80, U 81, U 82, U 83, U 84, U 85, U 86, U 87], []⟩) rfl, Hnx.out, hP, hb, hAw⟩
  · clear hP1 hb1
    rintro a w' ⟨⟨U, rfl⟩, hall, hP, hb, hAw⟩
    have h32 := fun (w2 : World) (h2 : Cars w2) => rhas_calls (w := w2) h2 c 32 hc (by decide) (by decide)
    have h64 := fun (w2 : World) (h2 : Cars w2) => rhas_calls (w := w2) h2 c 64 hc (by decide) (by decide)
    have h128 := fun (w2 : World) (h2 : Cars w2) => rhas_calls (w := w2) h2 c 128 hc (by decide) (by decide)
    have H32 := Lib.hid h32
    have H64 := Lib.hid h64
    have H128 := Lib.hid h128
    have Hall := Lib.hid hall
    clear h32 h64 h128 hall
    go_upto_region 12 with fail
    rename_i hnext
    refine wp_region_lit ?_
    refine Og.st_start (n := 88) rfl fun a hF => ?_
    refine Og.st_same (.pointer (some ⟨w.heap.size, 6, none⟩)) hF rfl rfl (by decide) (by kernel_rfl) ?_
    clear hF a; intro a hF
    refine Og.st_same (.agg #[.int .u64 p.g1, .int .u64 p.g2, .int .u64 p.g3, .int .u64 p.g4]) hF rfl rfl (by decide) (Og.exec_load rfl (load_gens hP)) ?_
    clear hF a; intro a hF
    refine Og.st_val (w' := w'.alloc (.cells #[.int .u64 0, .int .u64 0, .int .u64 0, .int .u64 0] 30)) (.pointer (some ⟨w'.heap.size, 0, none⟩)) hF rfl rfl (by decide) (by kernel_rfl) ?_
    clear hF a; intro a hF
    have hz2 : (w'.alloc (.cells #[.int .u64 0, .int .u64 0, .int .u64 0, .int .u64 0] 30)).heap[w'.heap.size]? = some (.cells #[.int .u64 0, .int .u64 0, .int .u64 0, .int .u64 0] 30 (0, 0)) := heap_new w' _ _ rfl
    have hb2 := below_alloc1 w' (.cells #[.int .u64 0, .int .u64 0, .int .u64 0, .int .u64 0] 30)
    have hP2 := hP.below hb2
    have hPlt := hP.lt
    generalize w'.alloc (.cells #[.int .u64 0, .int .u64 0, .int .u64 0, .int .u64 0] 30) = w2 at *
    refine Og.st_skip (w' := w2.setCells w'.heap.size 0 [.int .u64 p.g1, .int .u64 p.g2, .int .u64 p.g3, .int .u64 p.g4]) hF rfl rfl
      (exec_store (o := 0) (vs := [.int .u64 p.g1, .int .u64 p.g2, .int .u64 p.g3, .int .u64 p.g4]) (cs := [.int .u64 0, .int .u64 0, .int .u64 0, .int .u64 0]) rfl rfl rfl hz2 (Nat.le_refl 4) gens_sz (by intro u hu; simp at hu; rcases hu with rfl | rfl | rfl | rfl <;> rfl)) ?_
    clear hF a; intro a hF
    have hgs := setCells_grown w2 w'.heap.size 0 [.int .u64 p.g1, .int .u64 p.g2, .int .u64 p.g3, .int .u64 p.g4]
    have hG3 := setCells_heap [.int .u64 p.g1, .int .u64 p.g2, .int .u64 p.g3, .int .u64 p.g4] 0 w2 [.int .u64 0, .int .u64 0, .int .u64 0, .int .u64 0] hz2
    have hP3 : PkAt (w2.setCells w'.heap.size 0 [.int .u64 p.g1, .int .u64 p.g2, .int .u64 p.g3, .int .u64 p.g4]) w.heap.size p pv := hP2.grown hgs (fun e => by injection e; omega)
    have hb3 : Below w.heap.size w (w2.setCells w'.heap.size 0 [.int .u64 p.g1, .int .u64 p.g2, .int .u64 p.g3, .int .u64 p.g4]) := (hb.trans (hb2.mono hAw)).grown hgs (by have := hb2.size; omega) (fun k hk => by injection hk with hk; omega)
    have hAw3 : w.heap.size ≤ (w2.setCells w'.heap.size 0 [.int .u64 p.g1, .int .u64 p.g2, .int .u64 p.g3, .int .u64 p.g4]).heap.size := hb3.size
    generalize w2.setCells w'.heap.size 0 [.int .u64 p.g1, .int .u64 p.g2, .int .u64 p.g3, .int .u64 p.g4] = w3 at *
    generalize w'.heap.size = G at *
    refine wpList_nil ?_
    obtain ⟨U, rfl⟩ := Og.Fr.lit_ex hF (fun U => ⟨#[U 0, .pointer (some ⟨w.heap.size, 0, none⟩), .bool false, .int .i64 c, U 4, U 5, U 6, .pointer (some ⟨G, 0, none⟩), U 8, U 9, U 10, U 11, U 12, U 13, U 14, U 15, U 16, U 17, U 18, U 19, U 20, U 21, U 22, U 23, U 24, U 25, U 26, U 27, U 28, U 29, U 30, U 31, U 32, U 33, U 34, U 35, U 36, U 37, U 38, U 39, U 40, U 41, U 42, U 43, U 44, U 45, U 46, U 47, U 48, U 49, U 50, U 51, U 52, U 53, U 54, U 55, U 56, U 57, U 58, U 59, U 60, U 61, U 62, U 63, U 64, U 65, U 66, U 67, U 68, U 69, U 70, U 71, U 72, U 73, U 74, U 75, U 76, U 77, U 78, U 79, U 80, U 81, U 82, U 83, U 84, U 85, U 86, U 87], []⟩) (by kernel_rfl)
    clear hF hz2 hb2 hP2 hgs hb hP hAw hPlt
    refine hnext _ _ ?_
    clear hnext w' w2
    have hP := hP3
    have hb := hb3
    have hAw := hAw3
    have hgc := has_cell hG3
    have hc0 : w3.cell? ⟨G, 0, none⟩ = some (.int .u64 p.g1) := hgc 0
    have hc1 : w3.cell? ⟨G, 1, none⟩ = some (.int .u64 p.g2) := hgc 1
    have hc2 : w3.cell? ⟨G, 2, none⟩ = some (.int .u64 p.g3) := hgc 2
    have hc3 : w3.cell? ⟨G, 3, none⟩ = some (.int .u64 p.g4) := hgc 3
    have hGlt := heap_lt hG3
    clear hgc hG3 hP3 hb3 hAw3
    go_upto_region 13 with fail
    rename_i K hnext
    have key : ∀ (a2 : Act) (w2 : World), (∃ U : Nat → Value, a2 = ⟨#[U 0, .pointer (some ⟨w.heap.size, 0, none⟩), .bool false, .int .i64 c, U 4, U 5, U 6, U 7, U 8, U 9, U 10, U 11, U 12, U 13, U 14, U 15, U 16, U 17, U 18, U 19, U 20, U 21, U 22, U 23, U 24, U 25, U 26, U 27, U 28, U 29, U 30, U 31, U 32, U 33, U 34, U 35, U 36, U 37, U 38, U 39, U 40, U 41, U 42, U 43, U 44, U 45, U 46, U 47, U 48, U 49, U 50, U 51, U 52, U 53, U 54, U 55, .bool (!Wi.rOkG p c), U 57, U 58, U 59, U 60, U 61, U 62, U 63, U 64, U 65, U 66, U 67, U 68, U 69, U 70, U 71, U 72, U 73, U 74, U 75, U 76, U 77, U 78, U 79, U 80, U 81, U 82, U 83, U 84, U 85, U 86, U 87], []⟩) → PkAt w2 w.heap.size p pv → Below w.heap.size w w2 → w.heap.size ≤ w2.heap.size → K a2 w2 := by
      clear hP hb hAw hc0 hc1 hc2 hc3 hGlt
      rintro a2 w2 ⟨U, rfl⟩ hP hb hAw
      refine hnext _ _ ?_
      clear hnext
      cases hok1 : Wi.rOkG p c
      · have hr : Wi.rFits p c = false := by unfold Wi.rFits; rw [hok1]; simp
        go_wp2_with fail
        go_ret
        rw [hr]
        exact ⟨rfl, hb⟩
      · have Hok1 := Lib.hid hok1
        clear hok1
        go_upto_region 15 with fail
        rename_i K2 hnext2
        have key2 : ∀ (a2 : Act) (w2 : World), (∃ U : Nat → Value, a2 = ⟨#[U 0, .pointer (some ⟨w.heap.size, 0, none⟩), .bool false, .int .i64 c, U 4, U 5, U 6, U 7, U 8, U 9, U 10, U 11, U 12, U 13, U 14, U 15, U 16, U 17, U 18, U 19, U 20, U 21, U 22, U 23, U 24, U 25, U 26, U 27, U 28, U 29, U 30, U 31, U 32, U 33, U 34, U 35, U 36, U 37, U 38, U 39, U 40, U 41, U 42, U 43, U 44, U 45, U 46, U 47, U 48, U 49, U 50, U 51, U 52, U 53, U 54, U 55, U 56, U 57, U 58, U 59, U 60, U 61, U 62, U 63, U 64, U 65, U 66, U 67, U 68, U 69, U 70, U 71, U 72, U 73, .bool (!Wi.rOkS p c), U 75, U 76, U 77, U 78, U 79, U 80, U 81, U 82, U 83, U 84, U 85, U 86, U 87], []⟩) → PkAt w2 w.heap.size p pv → Below w.heap.size w w2 → w.heap.size ≤ w2.heap.size → K2 a2 w2 := by
          clear hP hb hAw
          rintro a2 w2 ⟨U, rfl⟩ hP hb hAw
          refine hnext2 _ _ ?_
          clear hnext2
          cases hok2 : Wi.rOkS p c
          · have hr : Wi.rFits p c = false := by unfold Wi.rFits; rw [hok2]; simp
            go_wp2_with fail
            go_ret
            rw [hr]
            exact ⟨rfl, hb⟩
          · have HD : Hid (Wi.rFits p c = Wi.rOkD p c) := by
              show _ = _
              unfold Wi.rFits
              rw [Hall.out, Hok1.out, hok2]
              simp
            clear hok2
            go_wp2_with fail
            refine (H128.out _ (hcb _ hb).1).out.mono ?_
            rintro e w4 ⟨rfl, hb4⟩
            have hP := hP.below hb4
            have hb := hb.trans (hb4.mono hAw)
            have hAw := Nat.le_trans hAw hb4.size
            clear hb4
            obtain ⟨q, m, hpv⟩ := (hrb _ hb).form
            have h42 := hP.cd hp
            have hlt := hP.lt
            cases hh : Wi.rHas c 128
            · have HD2 : Hid (Wi.rFits p c = (((p.data.length : Nat) : Int) == 0)) := by
                show _ = _
                rw [HD.out]
                unfold Wi.rOkD
                rw [hh]
                rfl
              generalize p.data.length = n at *
              subst hpv
              clear HD hh hrb
              go_wp2_with fail
              go_ret
              rw [HD2.out]
              exact ⟨rfl, hb⟩
            · have HD2 : Hid (Wi.rFits p c = Wi.rInside (p.data.length : Nat) (Wi.rLengths c p)) := by
                show _ = _
                rw [HD.out]
                unfold Wi.rOkD
                rw [hh]
                rfl
              clear HD hh hrb
              go_upto_region 18 with fail
              rename_i hnext
              refine Og.wp_region_og _ (fun j => j == 7)
                (Og.Vt [.pointer (some ⟨w.heap.size, 42, none⟩), pv, .int .i64 p.data.length, .int .i64 c, .agg (pkL p pv).toArray, undef, .bool (Wi.rInside (p.data.length : Nat) (Wi.rLengths c p)), .bool (Wi.rInside (p.data.length : Nat) (Wi.rLengths c p))] [(5, (fun u w' => RSp w' u (Wi.rLengths c p)))])
                (fun w' => Below w4.heap.size w4 w')
                (fun j w' => True) 88 rfl (by kernel_rfl) (by kernel_rfl) (Below.drew (Below.refl _ _)) (fun _ _ => trivial) (Og.allOps ⟨?_, ?_, ?_, ?_, ?_, ?_, ?_, ?_, trivial⟩) ?_
              · refine Og.ok_val _ rfl rfl fun φ w5 hA => ?_
                have e1 : φ 1 = .pointer (some ⟨w.heap.size, 0, none⟩) := hA.old 1 (by kernel_rfl)
                simp only [execOp, Og.ev, e1]
                go_simp
              · refine Og.ok_val _ rfl rfl fun φ w5 hA => ?_
                have e77 : φ 77 = .pointer (some ⟨w.heap.size, 42, none⟩) := hA.of 0 (d := 77) (by simp) rfl rfl
                have hcd := (hP.below hA.keep).cd hp
                rw [hpv] at hcd
                refine Og.exec_load rfl ?_
                simp only [Og.ev, e77]
                rw [hpv]
                exact ld_sl hcd
              · refine Og.ok_val _ rfl rfl fun φ w5 hA => ?_
                have e78 : φ 78 = pv := hA.of 1 (d := 78) (by simp) rfl rfl
                have hln := fun w => len_by w q p.data.length m
                rw [← hpv] at hln
                simp only [execOp]
                go_simp
                simp only [Og.ev, e78, hln, Result.andThen_ok]
              · refine Og.ok_val _ rfl rfl fun φ w5 hA => ?_
                have e3 : φ 3 = .int .i64 c := hA.old 3 (by kernel_rfl)
                simp only [execOp, Og.ev, e3]
                go_simp
              · refine Og.ok_val _ rfl rfl fun φ w5 hA => ?_
                have e1 : φ 1 = .pointer (some ⟨w.heap.size, 0, none⟩) := hA.old 1 (by kernel_rfl)
                refine Og.exec_load rfl ?_
                simp only [Og.ev, e1]
                exact load_pk (hP.below hA.keep) hp
              · refine Og.ok_gcall_fn _ _ _ _ ?_ ?_ ?_ rfl rfl fun φ w5 hA => ?_
                · intro x hx u' w6 w7 hu hb6
                  simp only [List.mem_cons, List.not_mem_nil, or_false] at hx
                  subst hx
                  exact hu.below hb6
                · exact fun w6 w7 hR hb6 => hR.trans (hb6.mono hR.size)
                · exact fun j w6 w7 hT hb6 => trivial
                · have e80 : φ 80 = .int .i64 c := hA.of 3 (d := 80) (by simp) rfl rfl
                  have e81 : φ 81 = .agg (pkL p pv).toArray := hA.of 4 (d := 81) (by simp) rfl rfl
                  refine ⟨_, #[.int .i64 c, .agg (pkL p pv).toArray], rlengths_enter, rfl, by simp [Og.ev, e80, e81], (rlengths_calls c hp).mono ?_⟩
                  rintro e w6 ⟨v, rfl, hv, -, hb6⟩
                  exact ⟨_, rfl, hv, hb6⟩
              · refine Og.ok_call_fn _ _ _ _ ?_ ?_ ?_ rfl rfl rfl fun φ w5 hA => ?_
                · intro x hx u' w6 w7 hu hb6
                  simp only [List.mem_cons, List.not_mem_nil, or_false] at hx
                  subst hx
                  exact hu.below hb6
                · exact fun w6 w7 hR hb6 => hR.trans (hb6.mono hR.size)
                · exact fun j w6 w7 hT hb6 => trivial
                · have e79 : φ 79 = .int .i64 p.data.length := hA.of 2 (d := 79) (by simp) rfl rfl
                  have h82 : RSp w5 (φ 82) (Wi.rLengths c p) := hA.of 5 (d := 82) (by simp) rfl rfl
                  exact ⟨_, #[.int .i64 p.data.length, φ 82], rinside_enter, rfl, by simp [Og.ev, e79], (rinside_calls h82 _).out⟩
              · refine Og.ok_val _ rfl rfl fun φ w5 hA => ?_
                have e83 : φ 83 = .bool (Wi.rInside (p.data.length : Nat) (Wi.rLengths c p)) := hA.of 6 (d := 83) (by simp) rfl rfl
                simp only [execOp, Og.ev, e83]
                go_simp
              · intro φ a w5 hF hR h0 hV hN
                have e2 : φ 2 = .bool (Wi.rInside (p.data.length : Nat) (Wi.rLengths c p)) := hV 7 _ 2 rfl rfl rfl
                refine hnext _ _ (wp_ret ?_)
                (try simp only [Exit.inBlock, Exit.then])
                refine bodyPost_ret (v := .bool (Wi.rInside (p.data.length : Nat) (Wi.rLengths c p))) ?_ hF.1 ?_
                · exact (results_tmp rfl _ _ _).trans (by rw [hF.2.2 2, e2])
                · exact ⟨by rw [HD2.out], hb.trans (hR.mono hAw)⟩
        clear hnext2
        have h5 := hP.c5
        cases hh : Wi.rHas c 64
        · refine wp_region_lit ?_
          refine Og.st_start (n := 88) rfl fun a hF => ?_
          refine Og.st_same (.int .i64 c) hF rfl rfl (by decide) (by kernel_rfl) ?_
          clear hF a; intro a hF
          refine Og.st_call (f := 44) (args := #[.int .i64 c, .int .i64 64]) hF rfl rfl (by decide) ((Og.exec_call rfl rhas_enter rfl _).trans (by kernel_rfl)) ((H64.out _ (hcb _ hb).1).out.mono ?_)
          rintro e w2 ⟨rfl, hb2⟩
          have hP := hP.below hb2
          have h5 := hP.c5
          have hb := hb.trans (hb2.mono hAw)
          have hAw := Nat.le_trans hAw hb2.size
          clear hb2
          refine ⟨_, rfl, ?_⟩
          clear hF a; intro a hF; rw [hh] at hF
          refine Og.st_same (.bool true) hF rfl rfl (by decide) (by kernel_rfl) ?_
          clear hF a; intro a hF
          refine Og.st_same (.bool true) hF rfl rfl (by decide) (by kernel_rfl) ?_
          clear hF a; intro a hF
          refine Og.st_pass hF (by kernel_rfl) rfl (by decide) ?_
          clear hF a; intro a hF
          refine Og.st_pass hF (by kernel_rfl) rfl (by decide) ?_
          clear hF a; intro a hF
          refine Og.st_pass hF (by kernel_rfl) rfl (by decide) ?_
          clear hF a; intro a hF
          refine Og.st_pass hF (by kernel_rfl) rfl (by decide) ?_
          clear hF a; intro a hF
          refine Og.st_pass hF (by kernel_rfl) rfl (by decide) ?_
          clear hF a; intro a hF
          refine Og.st_pass hF (by kernel_rfl) rfl (by decide) ?_
          clear hF a; intro a hF
          refine Og.st_pass hF (by kernel_rfl) rfl (by decide) ?_
          clear hF a; intro a hF
          refine Og.st_same (.bool true) hF rfl rfl (by decide) (by kernel_rfl) ?_
          clear hF a; intro a hF
          refine Og.st_same (.bool true) hF rfl rfl (by decide) (by kernel_rfl) ?_
          clear hF a; intro a hF
          refine Og.st_same_g (.pointer (some ⟨w.heap.size, 10, none⟩)) hF (by kernel_rfl) rfl (by decide) (by kernel_rfl) ?_
          clear hF a; intro a hF
          refine Og.st_same_g (.agg (p.sum.map bv).toArray) hF (by kernel_rfl) rfl (by decide) (Og.exec_load rfl (load_sum hP hp)) ?_
          clear hF a; intro a hF
          refine Og.st_call_g (f := 85) (args := #[.agg (p.sum.map bv).toArray]) hF (by kernel_rfl) rfl (by decide) ((Og.exec_call rfl rzeroes_enter rfl _).trans (by kernel_rfl)) ((rzeroes_calls hp.sum).out.mono ?_)
          rintro e w3 ⟨rfl, hb3⟩
          have hP := hP.below hb3
          have hb := hb.trans (hb3.mono hAw)
          have hAw := Nat.le_trans hAw hb3.size
          clear hb3
          refine ⟨_, rfl, ?_⟩
          clear hF a; intro a hF
          refine Og.st_same_g (.bool (!decide (p.sum = Wi.zeros))) hF (by kernel_rfl) rfl (by decide) (by kernel_rfl) ?_
          clear hF a; intro a hF
          refine Og.st_same (.bool (!decide (p.sum = Wi.zeros))) hF rfl rfl (by decide) (by kernel_rfl) ?_
          clear hF a; intro a hF
          refine wpList_nil ?_
          obtain ⟨U, rfl⟩ := Og.Fr.lit_ex hF (fun U => ⟨#[U 0, .pointer (some ⟨w.heap.size, 0, none⟩), .bool false, .int .i64 c, U 4, U 5, U 6, U 7, U 8, U 9, U 10, U 11, U 12, U 13, U 14, U 15, U 16, U 17, U 18, U 19, U 20, U 21, U 22, U 23, U 24, U 25, U 26, U 27, U 28, U 29, U 30, U 31, U 32, U 33, U 34, U 35, U 36, U 37, U 38, U 39, U 40, U 41, U 42, U 43, U 44, U 45, U 46, U 47, U 48, U 49, U 50, U 51, U 52, U 53, U 54, U 55, U 56, U 57, U 58, U 59, U 60, U 61, U 62, U 63, U 64, U 65, U 66, U 67, U 68, U 69, U 70, U 71, U 72, U 73, .bool (!decide (p.sum = Wi.zeros)), U 75, U 76, U 77, U 78, U 79, U 80, U 81, U 82, U 83, U 84, U 85, U 86, U 87], []⟩) (by kernel_rfl)
          clear hF
          refine key2 _ _ ⟨U, ?_⟩ hP hb hAw
          rw [show Wi.rOkS p c = decide (p.sum = Wi.zeros) from by unfold Wi.rOkS; rw [hh]; simp]
          all_goals rfl
        · cases h15 : ((c : Int) == 15)
          · refine wp_region_lit ?_
            refine Og.st_start (n := 88) rfl fun a hF => ?_
            refine Og.st_same (.int .i64 c) hF rfl rfl (by decide) (by kernel_rfl) ?_
            clear hF a; intro a hF
            refine Og.st_call (f := 44) (args := #[.int .i64 c, .int .i64 64]) hF rfl rfl (by decide) ((Og.exec_call rfl rhas_enter rfl _).trans (by kernel_rfl)) ((H64.out _ (hcb _ hb).1).out.mono ?_)
            rintro e w2 ⟨rfl, hb2⟩
            have hP := hP.below hb2
            have h5 := hP.c5
            have hb := hb.trans (hb2.mono hAw)
            have hAw := Nat.le_trans hAw hb2.size
            clear hb2
            refine ⟨_, rfl, ?_⟩
            clear hF a; intro a hF; rw [hh] at hF
            refine Og.st_same (.bool false) hF rfl rfl (by decide) (by kernel_rfl) ?_
            clear hF a; intro a hF
            refine Og.st_same (.bool false) hF rfl rfl (by decide) (by kernel_rfl) ?_
            clear hF a; intro a hF
            refine Og.st_same_g (.int .i64 c) hF (by kernel_rfl) rfl (by decide) (by kernel_rfl) ?_
            clear hF a; intro a hF
            refine Og.st_same_g (.bool ((c : Int) == 15)) hF (by kernel_rfl) rfl (by decide) (by kernel_rfl) ?_
            clear hF a; intro a hF
            rw [h15] at hF
            refine Og.st_same_g (.bool false) hF (by kernel_rfl) rfl (by decide) (by kernel_rfl) ?_
            clear hF a; intro a hF
            refine Og.st_pass hF (by kernel_rfl) rfl (by decide) ?_
            clear hF a; intro a hF
            refine Og.st_pass hF (by kernel_rfl) rfl (by decide) ?_
            clear hF a; intro a hF
            refine Og.st_pass hF (by kernel_rfl) rfl (by decide) ?_
            clear hF a; intro a hF
            refine Og.st_same_g (.bool false) hF (by kernel_rfl) rfl (by decide) (by kernel_rfl) ?_
            clear hF a; intro a hF
            refine Og.st_same (.bool false) hF rfl rfl (by decide) (by kernel_rfl) ?_
            clear hF a; intro a hF
            refine Og.st_same (.bool false) hF rfl rfl (by decide) (by kernel_rfl) ?_
            clear hF a; intro a hF
            refine Og.st_pass hF (by kernel_rfl) rfl (by decide) ?_
            clear hF a; intro a hF
            refine Og.st_pass hF (by kernel_rfl) rfl (by decide) ?_
            clear hF a; intro a hF
            refine Og.st_pass hF (by kernel_rfl) rfl (by decide) ?_
            clear hF a; intro a hF
            refine Og.st_pass hF (by kernel_rfl) rfl (by decide) ?_
            clear hF a; intro a hF
            refine Og.st_same (.bool false) hF rfl rfl (by decide) (by kernel_rfl) ?_
            clear hF a; intro a hF
            refine wpList_nil ?_
            obtain ⟨U, rfl⟩ := Og.Fr.lit_ex hF (fun U => ⟨#[U 0, .pointer (some ⟨w.heap.size, 0, none⟩), .bool false, .int .i64 c, U 4, U 5, U 6, U 7, U 8, U 9, U 10, U 11, U 12, U 13, U 14, U 15, U 16, U 17, U 18, U 19, U 20, U 21, U 22, U 23, U 24, U 25, U 26, U 27, U 28, U 29, U 30, U 31, U 32, U 33, U 34, U 35, U 36, U 37, U 38, U 39, U 40, U 41, U 42, U 43, U 44, U 45, U 46, U 47, U 48, U 49, U 50, U 51, U 52, U 53, U 54, U 55, U 56, U 57, U 58, U 59, U 60, U 61, U 62, U 63, U 64, U 65, U 66, U 67, U 68, U 69, U 70, U 71, U 72, U 73, .bool false, U 75, U 76, U 77, U 78, U 79, U 80, U 81, U 82, U 83, U 84, U 85, U 86, U 87], []⟩) (by kernel_rfl)
            clear hF
            refine key2 _ _ ⟨U, ?_⟩ hP hb hAw
            rw [show Wi.rOkS p c = true from by unfold Wi.rOkS; rw [hh]; rw [h15]; rfl]
            all_goals rfl
          · cases hfl : (((p.flags : Nat) : Int) == 1)
            · refine wp_region_lit ?_
              refine Og.st_start (n := 88) rfl fun a hF => ?_
              refine Og.st_same (.int .i64 c) hF rfl rfl (by decide) (by kernel_rfl) ?_
              clear hF a; intro a hF
              refine Og.st_call (f := 44) (args := #[.int .i64 c, .int .i64 64]) hF rfl rfl (by decide) ((Og.exec_call rfl rhas_enter rfl _).trans (by kernel_rfl)) ((H64.out _ (hcb _ hb).1).out.mono ?_)
              rintro e w2 ⟨rfl, hb2⟩
              have hP := hP.below hb2
              have h5 := hP.c5
              have hb := hb.trans (hb2.mono hAw)
              have hAw := Nat.le_trans hAw hb2.size
              clear hb2
              refine ⟨_, rfl, ?_⟩
              clear hF a; intro a hF; rw [hh] at hF
              refine Og.st_same (.bool false) hF rfl rfl (by decide) (by kernel_rfl) ?_
              clear hF a; intro a hF
              refine Og.st_same (.bool false) hF rfl rfl (by decide) (by kernel_rfl) ?_
              clear hF a; intro a hF
              refine Og.st_same_g (.int .i64 c) hF (by kernel_rfl) rfl (by decide) (by kernel_rfl) ?_
              clear hF a; intro a hF
              refine Og.st_same_g (.bool ((c : Int) == 15)) hF (by kernel_rfl) rfl (by decide) (by kernel_rfl) ?_
              clear hF a; intro a hF
              rw [h15] at hF
              refine Og.st_same_g (.bool true) hF (by kernel_rfl) rfl (by decide) (by kernel_rfl) ?_
              clear hF a; intro a hF
              refine Og.st_same_g (.pointer (some ⟨w.heap.size, 5, none⟩)) hF (by kernel_rfl) rfl (by decide) (by kernel_rfl) ?_
              clear hF a; intro a hF
              refine Og.st_same_g (.int .u32 p.flags) hF (by kernel_rfl) rfl (by decide) (Og.exec_load rfl (ld_u32 h5)) ?_
              clear hF a; intro a hF
              refine Og.st_same_g (.bool (((p.flags : Nat) : Int) == 1)) hF (by kernel_rfl) rfl (by decide) (by kernel_rfl) ?_
              clear hF a; intro a hF
              rw [hfl] at hF
              refine Og.st_same_g (.bool false) hF (by kernel_rfl) rfl (by decide) (by kernel_rfl) ?_
              clear hF a; intro a hF
              refine Og.st_same (.bool false) hF rfl rfl (by decide) (by kernel_rfl) ?_
              clear hF a; intro a hF
              refine Og.st_same (.bool false) hF rfl rfl (by decide) (by kernel_rfl) ?_
              clear hF a; intro a hF
              refine Og.st_pass hF (by kernel_rfl) rfl (by decide) ?_
              clear hF a; intro a hF
              refine Og.st_pass hF (by kernel_rfl) rfl (by decide) ?_
              clear hF a; intro a hF
              refine Og.st_pass hF (by kernel_rfl) rfl (by decide) ?_
              clear hF a; intro a hF
              refine Og.st_pass hF (by kernel_rfl) rfl (by decide) ?_
              clear hF a; intro a hF
              refine Og.st_same (.bool false) hF rfl rfl (by decide) (by kernel_rfl) ?_
              clear hF a; intro a hF
              refine wpList_nil ?_
              obtain ⟨U, rfl⟩ := Og.Fr.lit_ex hF (fun U => ⟨#[U 0, .pointer (some ⟨w.heap.size, 0, none⟩), .bool false, .int .i64 c, U 4, U 5, U 6, U 7, U 8, U 9, U 10, U 11, U 12, U 13, U 14, U 15, U 16, U 17, U 18, U 19, U 20, U 21, U 22, U 23, U 24, U 25, U 26, U 27, U 28, U 29, U 30, U 31, U 32, U 33, U 34, U 35, U 36, U 37, U 38, U 39, U 40, U 41, U 42, U 43, U 44, U 45, U 46, U 47, U 48, U 49, U 50, U 51, U 52, U 53, U 54, U 55, U 56, U 57, U 58, U 59, U 60, U 61, U 62, U 63, U 64, U 65, U 66, U 67, U 68, U 69, U 70, U 71, U 72, U 73, .bool false, U 75, U 76, U 77, U 78, U 79, U 80, U 81, U 82, U 83, U 84, U 85, U 86, U 87], []⟩) (by kernel_rfl)
              clear hF
              refine key2 _ _ ⟨U, ?_⟩ hP hb hAw
              rw [show Wi.rOkS p c = true from by unfold Wi.rOkS; rw [hh]; rw [h15]; rw [hfl]; rfl]
              all_goals rfl
            · refine wp_region_lit ?_
              refine Og.st_start (n := 88) rfl fun a hF => ?_
              refine Og.st_same (.int .i64 c) hF rfl rfl (by decide) (by kernel_rfl) ?_
              clear hF a; intro a hF
              refine Og.st_call (f := 44) (args := #[.int .i64 c, .int .i64 64]) hF rfl rfl (by decide) ((Og.exec_call rfl rhas_enter rfl _).trans (by kernel_rfl)) ((H64.out _ (hcb _ hb).1).out.mono ?_)
              rintro e w2 ⟨rfl, hb2⟩
              have hP := hP.below hb2
              have h5 := hP.c5
              have hb := hb.trans (hb2.mono hAw)
              have hAw := Nat.le_trans hAw hb2.size
              clear hb2
              refine ⟨_, rfl, ?_⟩
              clear hF a; intro a hF; rw [hh] at hF
              refine Og.st_same (.bool false) hF rfl rfl (by decide) (by kernel_rfl) ?_
              clear hF a; intro a hF
              refine Og.st_same (.bool false) hF rfl rfl (by decide) (by kernel_rfl) ?_
              clear hF a; intro a hF
              refine Og.st_same_g (.int .i64 c) hF (by kernel_rfl) rfl (by decide) (by kernel_rfl) ?_
              clear hF a; intro a hF
              refine Og.st_same_g (.bool ((c : Int) == 15)) hF (by kernel_rfl) rfl (by decide) (by kernel_rfl) ?_
              clear hF a; intro a hF
              rw [h15] at hF
              refine Og.st_same_g (.bool true) hF (by kernel_rfl) rfl (by decide) (by kernel_rfl) ?_
              clear hF a; intro a hF
              refine Og.st_same_g (.pointer (some ⟨w.heap.size, 5, none⟩)) hF (by kernel_rfl) rfl (by decide) (by kernel_rfl) ?_
              clear hF a; intro a hF
              refine Og.st_same_g (.int .u32 p.flags) hF (by kernel_rfl) rfl (by decide) (Og.exec_load rfl (ld_u32 h5)) ?_
              clear hF a; intro a hF
              refine Og.st_same_g (.bool (((p.flags : Nat) : Int) == 1)) hF (by kernel_rfl) rfl (by decide) (by kernel_rfl) ?_
              clear hF a; intro a hF
              rw [hfl] at hF
              refine Og.st_same_g (.bool true) hF (by kernel_rfl) rfl (by decide) (by kernel_rfl) ?_
              clear hF a; intro a hF
              refine Og.st_same (.bool true) hF rfl rfl (by decide) (by kernel_rfl) ?_
              clear hF a; intro a hF
              refine Og.st_same (.bool true) hF rfl rfl (by decide) (by kernel_rfl) ?_
              clear hF a; intro a hF
              refine Og.st_same_g (.pointer (some ⟨w.heap.size, 10, none⟩)) hF (by kernel_rfl) rfl (by decide) (by kernel_rfl) ?_
              clear hF a; intro a hF
              refine Og.st_same_g (.agg (p.sum.map bv).toArray) hF (by kernel_rfl) rfl (by decide) (Og.exec_load rfl (load_sum hP hp)) ?_
              clear hF a; intro a hF
              refine Og.st_call_g (f := 85) (args := #[.agg (p.sum.map bv).toArray]) hF (by kernel_rfl) rfl (by decide) ((Og.exec_call rfl rzeroes_enter rfl _).trans (by kernel_rfl)) ((rzeroes_calls hp.sum).out.mono ?_)
              rintro e w3 ⟨rfl, hb3⟩
              have hP := hP.below hb3
              have hb := hb.trans (hb3.mono hAw)
              have hAw := Nat.le_trans hAw hb3.size
              clear hb3
              refine ⟨_, rfl, ?_⟩
              clear hF a; intro a hF
              refine Og.st_same_g (.bool (!decide (p.sum = Wi.zeros))) hF (by kernel_rfl) rfl (by decide) (by kernel_rfl) ?_
              clear hF a; intro a hF
              refine Og.st_same (.bool (!decide (p.sum = Wi.zeros))) hF rfl rfl (by decide) (by kernel_rfl) ?_
              clear hF a; intro a hF
              refine wpList_nil ?_
              obtain ⟨U, rfl⟩ := Og.Fr.lit_ex hF (fun U => ⟨#[U 0, .pointer (some ⟨w.heap.size, 0, none⟩), .bool false, .int .i64 c, U 4, U 5, U 6, U 7, U 8, U 9, U 10, U 11, U 12, U 13, U 14, U 15, U 16, U 17, U 18, U 19, U 20, U 21, U 22, U 23, U 24, U 25, U 26, U 27, U 28, U 29, U 30, U 31, U 32, U 33, U 34, U 35, U 36, U 37, U 38, U 39, U 40, U 41, U 42, U 43, U 44, U 45, U 46, U 47, U 48, U 49, U 50, U 51, U 52, U 53, U 54, U 55, U 56, U 57, U 58, U 59, U 60, U 61, U 62, U 63, U 64, U 65, U 66, U 67, U 68, U 69, U 70, U 71, U 72, U 73, .bool (!decide (p.sum = Wi.zeros)), U 75, U 76, U 77, U 78, U 79, U 80, U 81, U 82, U 83, U 84, U 85, U 86, U 87], []⟩) (by kernel_rfl)
              clear hF
              refine key2 _ _ ⟨U, ?_⟩ hP hb hAw
              rw [show Wi.rOkS p c = decide (p.sum = Wi.zeros) from by unfold Wi.rOkS; rw [hh]; rw [h15]; rw [hfl]; simp]
              all_goals rfl
    clear hnext
    cases hh : Wi.rHas c 32
    · cases hz1 : (((p.g1 : Nat) : Int) != 0)
      · cases hz2 : (((p.g2 : Nat) : Int) != 0)
        · cases hz3 : (((p.g3 : Nat) : Int) != 0)
          · cases hz4 : (((p.g4 : Nat) : Int) != 0)
            · refine wp_region_lit ?_
              refine Og.st_start (n := 88) rfl fun a hF => ?_
              refine Og.st_same (.int .i64 c) hF rfl rfl (by decide) (by kernel_rfl) ?_
              clear hF a; intro a hF
              refine Og.st_call (f := 44) (args := #[.int .i64 c, .int .i64 32]) hF rfl rfl (by decide) ((Og.exec_call rfl rhas_enter rfl _).trans (by kernel_rfl)) ((H32.out _ (hcb _ hb).1).out.mono ?_)
              rintro e w2 ⟨rfl, hb2⟩
              have hc3 := ((bcell hb2).1 G 3 hGlt).trans hc3
              have hc2 := ((bcell hb2).1 G 2 hGlt).trans hc2
              have hc1 := ((bcell hb2).1 G 1 hGlt).trans hc1
              have hc0 := ((bcell hb2).1 G 0 hGlt).trans hc0
              have hP := hP.below hb2
              have hb := hb.trans (hb2.mono hAw)
              have hAw := Nat.le_trans hAw hb2.size
              clear hb2
              refine ⟨_, rfl, ?_⟩
              clear hF a; intro a hF; rw [hh] at hF
              refine Og.st_same (.bool true) hF rfl rfl (by decide) (by kernel_rfl) ?_
              clear hF a; intro a hF
              refine Og.st_same (.bool true) hF rfl rfl (by decide) (by kernel_rfl) ?_
              clear hF a; intro a hF
              refine Og.st_same_g (.pointer (some ⟨G, 0, none⟩)) hF (by kernel_rfl) rfl (by decide) (by kernel_rfl) ?_
              clear hF a; intro a hF
              refine Og.st_same_g (.int .u64 p.g1) hF (by kernel_rfl) rfl (by decide) (Og.exec_load rfl (ld_u64 hc0)) ?_
              clear hF a; intro a hF
              refine Og.st_same_g (.bool (((p.g1 : Nat) : Int) != 0)) hF (by kernel_rfl) rfl (by decide) (by kernel_rfl) ?_
              clear hF a; intro a hF
              rw [hz1] at hF
              refine Og.st_same_g (.bool false) hF (by kernel_rfl) rfl (by decide) (by kernel_rfl) ?_
              clear hF a; intro a hF
              refine Og.st_same_g (.pointer (some ⟨G, 1, none⟩)) hF (by kernel_rfl) rfl (by decide) (by kernel_rfl) ?_
              clear hF a; intro a hF
              refine Og.st_same_g (.int .u64 p.g2) hF (by kernel_rfl) rfl (by decide) (Og.exec_load rfl (ld_u64 hc1)) ?_
              clear hF a; intro a hF
              refine Og.st_same_g (.bool (((p.g2 : Nat) : Int) != 0)) hF (by kernel_rfl) rfl (by decide) (by kernel_rfl) ?_
              clear hF a; intro a hF
              rw [hz2] at hF
              refine Og.st_same_g (.bool false) hF (by kernel_rfl) rfl (by decide) (by kernel_rfl) ?_
              clear hF a; intro a hF
              refine Og.st_same_g (.bool false) hF (by kernel_rfl) rfl (by decide) (by kernel_rfl) ?_
              clear hF a; intro a hF
              refine Og.st_same_g (.pointer (some ⟨G, 2, none⟩)) hF (by kernel_rfl) rfl (by decide) (by kernel_rfl) ?_
              clear hF a; intro a hF
              refine Og.st_same_g (.int .u64 p.g3) hF (by kernel_rfl) rfl (by decide) (Og.exec_load rfl (ld_u64 hc2)) ?_
              clear hF a; intro a hF
              refine Og.st_same_g (.bool (((p.g3 : Nat) : Int) != 0)) hF (by kernel_rfl) rfl (by decide) (by kernel_rfl) ?_
              clear hF a; intro a hF
              rw [hz3] at hF
              refine Og.st_same_g (.bool false) hF (by kernel_rfl) rfl (by decide) (by kernel_rfl) ?_
              clear hF a; intro a hF
              refine Og.st_same_g (.bool false) hF (by kernel_rfl) rfl (by decide) (by kernel_rfl) ?_
              clear hF a; intro a hF
              refine Og.st_same_g (.pointer (some ⟨G, 3, none⟩)) hF (by kernel_rfl) rfl (by decide) (by kernel_rfl) ?_
              clear hF a; intro a hF
              refine Og.st_same_g (.int .u64 p.g4) hF (by kernel_rfl) rfl (by decide) (Og.exec_load rfl (ld_u64 hc3)) ?_
              clear hF a; intro a hF
              refine Og.st_same_g (.bool (((p.g4 : Nat) : Int) != 0)) hF (by kernel_rfl) rfl (by decide) (by kernel_rfl) ?_
              clear hF a; intro a hF
              rw [hz4] at hF
              refine Og.st_same_g (.bool false) hF (by kernel_rfl) rfl (by decide) (by kernel_rfl) ?_
              clear hF a; intro a hF
              refine Og.st_same (.bool false) hF rfl rfl (by decide) (by kernel_rfl) ?_
              clear hF a; intro a hF
              refine wpList_nil ?_
              obtain ⟨U, rfl⟩ := Og.Fr.lit_ex hF (fun U => ⟨#[U 0, .pointer (some ⟨w.heap.size, 0, none⟩), .bool false, .int .i64 c, U 4, U 5, U 6, U 7, U 8, U 9, U 10, U 11, U 12, U 13, U 14, U 15, U 16, U 17, U 18, U 19, U 20, U 21, U 22, U 23, U 24, U 25, U 26, U 27, U 28, U 29, U 30, U 31, U 32, U 33, U 34, U 35, U 36, U 37, U 38, U 39, U 40, U 41, U 42, U 43, U 44, U 45, U 46, U 47, U 48, U 49, U 50, U 51, U 52, U 53, U 54, U 55, .bool false, U 57, U 58, U 59, U 60, U 61, U 62, U 63, U 64, U 65, U 66, U 67, U 68, U 69, U 70, U 71, U 72, U 73, U 74, U 75, U 76, U 77, U 78, U 79, U 80, U 81, U 82, U 83, U 84, U 85, U 86, U 87], []⟩) (by kernel_rfl)
              clear hF
              refine key _ _ ⟨U, ?_⟩ hP hb hAw
              rw [show Wi.rOkG p c = true from by unfold Wi.rOkG; rw [hh]; rw [show (((p.g1 : Nat) : Int) == 0) = true from by simpa using hz1]; rw [show (((p.g2 : Nat) : Int) == 0) = true from by simpa using hz2]; rw [show (((p.g3 : Nat) : Int) == 0) = true from by simpa using hz3]; rw [show (((p.g4 : Nat) : Int) == 0) = true from by simpa using hz4]; simp]
              rfl
            · refine wp_region_lit ?_
              refine Og.st_start (n := 88) rfl fun a hF => ?_
              refine Og.st_same (.int .i64 c) hF rfl rfl (by decide) (by kernel_rfl) ?_
              clear hF a; intro a hF
              refine Og.st_call (f := 44) (args := #[.int .i64 c, .int .i64 32]) hF rfl rfl (by decide) ((Og.exec_call rfl rhas_enter rfl _).trans (by kernel_rfl)) ((H32.out _ (hcb _ hb).1).out.mono ?_)
              rintro e w2 ⟨rfl, hb2⟩
              have hc3 := ((bcell hb2).1 G 3 hGlt).trans hc3
              have hc2 := ((bcell hb2).1 G 2 hGlt).trans hc2
              have hc1 := ((bcell hb2).1 G 1 hGlt).trans hc1
              have hc0 := ((bcell hb2).1 G 0 hGlt).trans hc0
              have hP := hP.below hb2
              have hb := hb.trans (hb2.mono hAw)
              have hAw := Nat.le_trans hAw hb2.size
              clear hb2
              refine ⟨_, rfl, ?_⟩
              clear hF a; intro a hF; rw [hh] at hF
              refine Og.st_same (.bool true) hF rfl rfl (by decide) (by kernel_rfl) ?_
              clear hF a; intro a hF
              refine Og.st_same (.bool true) hF rfl rfl (by decide) (by kernel_rfl) ?_
              clear hF a; intro a hF
              refine Og.st_same_g (.pointer (some ⟨G, 0, none⟩)) hF (by kernel_rfl) rfl (by decide) (by kernel_rfl) ?_
              clear hF a; intro a hF
              refine Og.st_same_g (.int .u64 p.g1) hF (by kernel_rfl) rfl (by decide) (Og.exec_load rfl (ld_u64 hc0)) ?_
              clear hF a; intro a hF
              refine Og.st_same_g (.bool (((p.g1 : Nat) : Int) != 0)) hF (by kernel_rfl) rfl (by decide) (by kernel_rfl) ?_
              clear hF a; intro a hF
              rw [hz1] at hF
              refine Og.st_same_g (.bool false) hF (by kernel_rfl) rfl (by decide) (by kernel_rfl) ?_
              clear hF a; intro a hF
              refine Og.st_same_g (.pointer (some ⟨G, 1, none⟩)) hF (by kernel_rfl) rfl (by decide) (by kernel_rfl) ?_
              clear hF a; intro a hF
              refine Og.st_same_g (.int .u64 p.g2) hF (by kernel_rfl) rfl (by decide) (Og.exec_load rfl (ld_u64 hc1)) ?_
              clear hF a; intro a hF
              refine Og.st_same_g (.bool (((p.g2 : Nat) : Int) != 0)) hF (by kernel_rfl) rfl (by decide) (by kernel_rfl) ?_
              clear hF a; intro a hF
              rw [hz2] at hF
              refine Og.st_same_g (.bool false) hF (by kernel_rfl) rfl (by decide) (by kernel_rfl) ?_
              clear hF a; intro a hF
              refine Og.st_same_g (.bool false) hF (by kernel_rfl) rfl (by decide) (by kernel_rfl) ?_
              clear hF a; intro a hF
              refine Og.st_same_g (.pointer (some ⟨G, 2, none⟩)) hF (by kernel_rfl) rfl (by decide) (by kernel_rfl) ?_
              clear hF a; intro a hF
              refine Og.st_same_g (.int .u64 p.g3) hF (by kernel_rfl) rfl (by decide) (Og.exec_load rfl (ld_u64 hc2)) ?_
              clear hF a; intro a hF
              refine Og.st_same_g (.bool (((p.g3 : Nat) : Int) != 0)) hF (by kernel_rfl) rfl (by decide) (by kernel_rfl) ?_
              clear hF a; intro a hF
              rw [hz3] at hF
              refine Og.st_same_g (.bool false) hF (by kernel_rfl) rfl (by decide) (by kernel_rfl) ?_
              clear hF a; intro a hF
              refine Og.st_same_g (.bool false) hF (by kernel_rfl) rfl (by decide) (by kernel_rfl) ?_
              clear hF a; intro a hF
              refine Og.st_same_g (.pointer (some ⟨G, 3, none⟩)) hF (by kernel_rfl) rfl (by decide) (by kernel_rfl) ?_
              clear hF a; intro a hF
              refine Og.st_same_g (.int .u64 p.g4) hF (by kernel_rfl) rfl (by decide) (Og.exec_load rfl (ld_u64 hc3)) ?_
              clear hF a; intro a hF
              refine Og.st_same_g (.bool (((p.g4 : Nat) : Int) != 0)) hF (by kernel_rfl) rfl (by decide) (by kernel_rfl) ?_
              clear hF a; intro a hF
              rw [hz4] at hF
              refine Og.st_same_g (.bool true) hF (by kernel_rfl) rfl (by decide) (by kernel_rfl) ?_
              clear hF a; intro a hF
              refine Og.st_same (.bool true) hF rfl rfl (by decide) (by kernel_rfl) ?_
              clear hF a; intro a hF
              refine wpList_nil ?_
              obtain ⟨U, rfl⟩ := Og.Fr.lit_ex hF (fun U => ⟨#[U 0, .pointer (some ⟨w.heap.size, 0, none⟩), .bool false, .int .i64 c, U 4, U 5, U 6, U 7, U 8, U 9, U 10, U 11, U 12, U 13, U 14, U 15, U 16, U 17, U 18, U 19, U 20, U 21, U 22, U 23, U 24, U 25, U 26, U 27, U 28, U 29, U 30, U 31, U 32, U 33, U 34, U 35, U 36, U 37, U 38, U 39, U 40, U 41, U 42, U 43, U 44, U 45, U 46, U 47, U 48, U 49, U 50, U 51, U 52, U 53, U 54, U 55, .bool true, U 57, U 58, U 59, U 60, U 61, U 62, U 63, U 64, U 65, U 66, U 67, U 68, U 69, U 70, U 71, U 72, U 73, U 74, U 75, U 76, U 77, U 78, U 79, U 80, U 81, U 82, U 83, U 84, U 85, U 86, U 87], []⟩) (by kernel_rfl)
              clear hF
              refine key _ _ ⟨U, ?_⟩ hP hb hAw
              rw [show Wi.rOkG p c = false from by unfold Wi.rOkG; rw [hh]; rw [show (((p.g1 : Nat) : Int) == 0) = true from by simpa using hz1]; rw [show (((p.g2 : Nat) : Int) == 0) = true from by simpa using hz2]; rw [show (((p.g3 : Nat) : Int) == 0) = true from by simpa using hz3]; rw [show (((p.g4 : Nat) : Int) == 0) = false from by simpa using hz4]; simp]
              rfl
          · refine wp_region_lit ?_
            refine Og.st_start (n := 88) rfl fun a hF => ?_
            refine Og.st_same (.int .i64 c) hF rfl rfl (by decide) (by kernel_rfl) ?_
            clear hF a; intro a hF
            refine Og.st_call (f := 44) (args := #[.int .i64 c, .int .i64 32]) hF rfl rfl (by decide) ((Og.exec_call rfl rhas_enter rfl _).trans (by kernel_rfl)) ((H32.out _ (hcb _ hb).1).out.mono ?_)
            rintro e w2 ⟨rfl, hb2⟩
            have hc3 := ((bcell hb2).1 G 3 hGlt).trans hc3
            have hc2 := ((bcell hb2).1 G 2 hGlt).trans hc2
            have hc1 := ((bcell hb2).1 G 1 hGlt).trans hc1
            have hc0 := ((bcell hb2).1 G 0 hGlt).trans hc0
            have hP := hP.below hb2
            have hb := hb.trans (hb2.mono hAw)
            have hAw := Nat.le_trans hAw hb2.size
            clear hb2
            refine ⟨_, rfl, ?_⟩
            clear hF a; intro a hF; rw [hh] at hF
            refine Og.st_same (.bool true) hF rfl rfl (by decide) (by kernel_rfl) ?_
            clear hF a; intro a hF
            refine Og.st_same (.bool true) hF rfl rfl (by decide) (by kernel_rfl) ?_
            clear hF a; intro a hF
            refine Og.st_same_g (.pointer (some ⟨G, 0, none⟩)) hF (by kernel_rfl) rfl (by decide) (by kernel_rfl) ?_
            clear hF a; intro a hF
            refine Og.st_same_g (.int .u64 p.g1) hF (by kernel_rfl) rfl (by decide) (Og.exec_load rfl (ld_u64 hc0)) ?_
            clear hF a; intro a hF
            refine Og.st_same_g (.bool (((p.g1 : Nat) : Int) != 0)) hF (by kernel_rfl) rfl (by decide) (by kernel_rfl) ?_
            clear hF a; intro a hF
            rw [hz1] at hF
            refine Og.st_same_g (.bool false) hF (by kernel_rfl) rfl (by decide) (by kernel_rfl) ?_
            clear hF a; intro a hF
            refine Og.st_same_g (.pointer (some ⟨G, 1, none⟩)) hF (by kernel_rfl) rfl (by decide) (by kernel_rfl) ?_
            clear hF a; intro a hF
            refine Og.st_same_g (.int .u64 p.g2) hF (by kernel_rfl) rfl (by decide) (Og.exec_load rfl (ld_u64 hc1)) ?_
            clear hF a; intro a hF
            refine Og.st_same_g (.bool (((p.g2 : Nat) : Int) != 0)) hF (by kernel_rfl) rfl (by decide) (by kernel_rfl) ?_
            clear hF a; intro a hF
            rw [hz2] at hF
            refine Og.st_same_g (.bool false) hF (by kernel_rfl) rfl (by decide) (by kernel_rfl) ?_
            clear hF a; intro a hF
            refine Og.st_same_g (.bool false) hF (by kernel_rfl) rfl (by decide) (by kernel_rfl) ?_
            clear hF a; intro a hF
            refine Og.st_same_g (.pointer (some ⟨G, 2, none⟩)) hF (by kernel_rfl) rfl (by decide) (by kernel_rfl) ?_
            clear hF a; intro a hF
            refine Og.st_same_g (.int .u64 p.g3) hF (by kernel_rfl) rfl (by decide) (Og.exec_load rfl (ld_u64 hc2)) ?_
            clear hF a; intro a hF
            refine Og.st_same_g (.bool (((p.g3 : Nat) : Int) != 0)) hF (by kernel_rfl) rfl (by decide) (by kernel_rfl) ?_
            clear hF a; intro a hF
            rw [hz3] at hF
            refine Og.st_same_g (.bool true) hF (by kernel_rfl) rfl (by decide) (by kernel_rfl) ?_
            clear hF a; intro a hF
            refine Og.st_same_g (.bool true) hF (by kernel_rfl) rfl (by decide) (by kernel_rfl) ?_
            clear hF a; intro a hF
            refine Og.st_pass hF (by kernel_rfl) rfl (by decide) ?_
            clear hF a; intro a hF
            refine Og.st_pass hF (by kernel_rfl) rfl (by decide) ?_
            clear hF a; intro a hF
            refine Og.st_pass hF (by kernel_rfl) rfl (by decide) ?_
            clear hF a; intro a hF
            refine Og.st_same_g (.bool true) hF (by kernel_rfl) rfl (by decide) (by kernel_rfl) ?_
            clear hF a; intro a hF
            refine Og.st_same (.bool true) hF rfl rfl (by decide) (by kernel_rfl) ?_
            clear hF a; intro a hF
            refine wpList_nil ?_
            obtain ⟨U, rfl⟩ := Og.Fr.lit_ex hF (fun U => ⟨#[U 0, .pointer (some ⟨w.heap.size, 0, none⟩), .bool false, .int .i64 c, U 4, U 5, U 6, U 7, U 8, U 9, U 10, U 11, U 12, U 13, U 14, U 15, U 16, U 17, U 18, U 19, U 20, U 21, U 22, U 23, U 24, U 25, U 26, U 27, U 28, U 29, U 30, U 31, U 32, U 33, U 34, U 35, U 36, U 37, U 38, U 39, U 40, U 41, U 42, U 43, U 44, U 45, U 46, U 47, U 48, U 49, U 50, U 51, U 52, U 53, U 54, U 55, .bool true, U 57, U 58, U 59, U 60, U 61, U 62, U 63, U 64, U 65, U 66, U 67, U 68, U 69, U 70, U 71, U 72, U 73, U 74, U 75, U 76, U 77, U 78, U 79, U 80, U 81, U 82, U 83, U 84, U 85, U 86, U 87], []⟩) (by kernel_rfl)
            clear hF
            refine key _ _ ⟨U, ?_⟩ hP hb hAw
            rw [show Wi.rOkG p c = false from by unfold Wi.rOkG; rw [hh]; rw [show (((p.g1 : Nat) : Int) == 0) = true from by simpa using hz1]; rw [show (((p.g2 : Nat) : Int) == 0) = true from by simpa using hz2]; rw [show (((p.g3 : Nat) : Int) == 0) = false from by simpa using hz3]; simp]
            rfl
        · refine wp_region_lit ?_
          refine Og.st_start (n := 88) rfl fun a hF => ?_
          refine Og.st_same (.int .i64 c) hF rfl rfl (by decide) (by kernel_rfl) ?_
          clear hF a; intro a hF
          refine Og.st_call (f := 44) (args := #[.int .i64 c, .int .i64 32]) hF rfl rfl (by decide) ((Og.exec_call rfl rhas_enter rfl _).trans (by kernel_rfl)) ((H32.out _ (hcb _ hb).1).out.mono ?_)
          rintro e w2 ⟨rfl, hb2⟩
          have hc3 := ((bcell hb2).1 G 3 hGlt).trans hc3
          have hc2 := ((bcell hb2).1 G 2 hGlt).trans hc2
          have hc1 := ((bcell hb2).1 G 1 hGlt).trans hc1
          have hc0 := ((bcell hb2).1 G 0 hGlt).trans hc0
          have hP := hP.below hb2
          have hb := hb.trans (hb2.mono hAw)
          have hAw := Nat.le_trans hAw hb2.size
          clear hb2
          refine ⟨_, rfl, ?_⟩
          clear hF a; intro a hF; rw [hh] at hF
          refine Og.st_same (.bool true) hF rfl rfl (by decide) (by kernel_rfl) ?_
          clear hF a; intro a hF
          refine Og.st_same (.bool true) hF rfl rfl (by decide) (by kernel_rfl) ?_
          clear hF a; intro a hF
          refine Og.st_same_g (.pointer (some ⟨G, 0, none⟩)) hF (by kernel_rfl) rfl (by decide) (by kernel_rfl) ?_
          clear hF a; intro a hF
          refine Og.st_same_g (.int .u64 p.g1) hF (by kernel_rfl) rfl (by decide) (Og.exec_load rfl (ld_u64 hc0)) ?_
          clear hF a; intro a hF
          refine Og.st_same_g (.bool (((p.g1 : Nat) : Int) != 0)) hF (by kernel_rfl) rfl (by decide) (by kernel_rfl) ?_
          clear hF a; intro a hF
          rw [hz1] at hF
          refine Og.st_same_g (.bool false) hF (by kernel_rfl) rfl (by decide) (by kernel_rfl) ?_
          clear hF a; intro a hF
          refine Og.st_same_g (.pointer (some ⟨G, 1, none⟩)) hF (by kernel_rfl) rfl (by decide) (by kernel_rfl) ?_
          clear hF a; intro a hF
          refine Og.st_same_g (.int .u64 p.g2) hF (by kernel_rfl) rfl (by decide) (Og.exec_load rfl (ld_u64 hc1)) ?_
          clear hF a; intro a hF
          refine Og.st_same_g (.bool (((p.g2 : Nat) : Int) != 0)) hF (by kernel_rfl) rfl (by decide) (by kernel_rfl) ?_
          clear hF a; intro a hF
          rw [hz2] at hF
          refine Og.st_same_g (.bool true) hF (by kernel_rfl) rfl (by decide) (by kernel_rfl) ?_
          clear hF a; intro a hF
          refine Og.st_same_g (.bool true) hF (by kernel_rfl) rfl (by decide) (by kernel_rfl) ?_
          clear hF a; intro a hF
          refine Og.st_pass hF (by kernel_rfl) rfl (by decide) ?_
          clear hF a; intro a hF
          refine Og.st_pass hF (by kernel_rfl) rfl (by decide) ?_
          clear hF a; intro a hF
          refine Og.st_pass hF (by kernel_rfl) rfl (by decide) ?_
          clear hF a; intro a hF
          refine Og.st_same_g (.bool true) hF (by kernel_rfl) rfl (by decide) (by kernel_rfl) ?_
          clear hF a; intro a hF
          refine Og.st_same_g (.bool true) hF (by kernel_rfl) rfl (by decide) (by kernel_rfl) ?_
          clear hF a; intro a hF
          refine Og.st_pass hF (by kernel_rfl) rfl (by decide) ?_
          clear hF a; intro a hF
          refine Og.st_pass hF (by kernel_rfl) rfl (by decide) ?_
          clear hF a; intro a hF
          refine Og.st_pass hF (by kernel_rfl) rfl (by decide) ?_
          clear hF a; intro a hF
          refine Og.st_same_g (.bool true) hF (by kernel_rfl) rfl (by decide) (by kernel_rfl) ?_
          clear hF a; intro a hF
          refine Og.st_same (.bool true) hF rfl rfl (by decide) (by kernel_rfl) ?_
          clear hF a; intro a hF
          refine wpList_nil ?_
          obtain ⟨U, rfl⟩ := Og.Fr.lit_ex hF (fun U => ⟨#[U 0, .pointer (some ⟨w.heap.size, 0, none⟩), .bool false, .int .i64 c, U 4, U 5, U 6, U 7, U 8, U 9, U 10, U 11, U 12, U 13, U 14, U 15, U 16, U 17, U 18, U 19, U 20, U 21, U 22, U 23, U 24, U 25, U 26, U 27, U 28, U 29, U 30, U 31, U 32, U 33, U 34, U 35, U 36, U 37, U 38, U 39, U 40, U 41, U 42, U 43, U 44, U 45, U 46, U 47, U 48, U 49, U 50, U 51, U 52, U 53, U 54, U 55, .bool true, U 57, U 58, U 59, U 60, U 61, U 62, U 63, U 64, U 65, U 66, U 67, U 68, U 69, U 70, U 71, U 72, U 73, U 74, U 75, U 76, U 77, U 78, U 79, U 80, U 81, U 82, U 83, U 84, U 85, U 86, U 87], []⟩) (by kernel_rfl)
          clear hF
          refine key _ _ ⟨U, ?_⟩ hP hb hAw
          rw [show Wi.rOkG p c = false from by unfold Wi.rOkG; rw [hh]; rw [show (((p.g1 : Nat) : Int) == 0) = true from by simpa using hz1]; rw [show (((p.g2 : Nat) : Int) == 0) = false from by simpa using hz2]; simp]
          rfl
      · refine wp_region_lit ?_
        refine Og.st_start (n := 88) rfl fun a hF => ?_
        refine Og.st_same (.int .i64 c) hF rfl rfl (by decide) (by kernel_rfl) ?_
        clear hF a; intro a hF
        refine Og.st_call (f := 44) (args := #[.int .i64 c, .int .i64 32]) hF rfl rfl (by decide) ((Og.exec_call rfl rhas_enter rfl _).trans (by kernel_rfl)) ((H32.out _ (hcb _ hb).1).out.mono ?_)
        rintro e w2 ⟨rfl, hb2⟩
        have hc3 := ((bcell hb2).1 G 3 hGlt).trans hc3
        have hc2 := ((bcell hb2).1 G 2 hGlt).trans hc2
        have hc1 := ((bcell hb2).1 G 1 hGlt).trans hc1
        have hc0 := ((bcell hb2).1 G 0 hGlt).trans hc0
        have hP := hP.below hb2
        have hb := hb.trans (hb2.mono hAw)
        have hAw := Nat.le_trans hAw hb2.size
        clear hb2
        refine ⟨_, rfl, ?_⟩
        clear hF a; intro a hF; rw [hh] at hF
        refine Og.st_same (.bool true) hF rfl rfl (by decide) (by kernel_rfl) ?_
        clear hF a; intro a hF
        refine Og.st_same (.bool true) hF rfl rfl (by decide) (by kernel_rfl) ?_
        clear hF a; intro a hF
        refine Og.st_same_g (.pointer (some ⟨G, 0, none⟩)) hF (by kernel_rfl) rfl (by decide) (by kernel_rfl) ?_
        clear hF a; intro a hF
        refine Og.st_same_g (.int .u64 p.g1) hF (by kernel_rfl) rfl (by decide) (Og.exec_load rfl (ld_u64 hc0)) ?_
        clear hF a; intro a hF
        refine Og.st_same_g (.bool (((p.g1 : Nat) : Int) != 0)) hF (by kernel_rfl) rfl (by decide) (by kernel_rfl) ?_
        clear hF a; intro a hF
        rw [hz1] at hF
        refine Og.st_same_g (.bool true) hF (by kernel_rfl) rfl (by decide) (by kernel_rfl) ?_
        clear hF a; intro a hF
        refine Og.st_pass hF (by kernel_rfl) rfl (by decide) ?_
        clear hF a; intro a hF
        refine Og.st_pass hF (by kernel_rfl) rfl (by decide) ?_
        clear hF a; intro a hF
        refine Og.st_pass hF (by kernel_rfl) rfl (by decide) ?_
        clear hF a; intro a hF
        refine Og.st_same_g (.bool true) hF (by kernel_rfl) rfl (by decide) (by kernel_rfl) ?_
        clear hF a; intro a hF
        refine Og.st_same_g (.bool true) hF (by kernel_rfl) rfl (by decide) (by kernel_rfl) ?_
        clear hF a; intro a hF
        refine Og.st_pass hF (by kernel_rfl) rfl (by decide) ?_
        clear hF a; intro a hF
        refine Og.st_pass hF (by kernel_rfl) rfl (by decide) ?_
        clear hF a; intro a hF
        refine Og.st_pass hF (by kernel_rfl) rfl (by decide) ?_
        clear hF a; intro a hF
        refine Og.st_same_g (.bool true) hF (by kernel_rfl) rfl (by decide) (by kernel_rfl) ?_
        clear hF a; intro a hF
        refine Og.st_same_g (.bool true) hF (by kernel_rfl) rfl (by decide) (by kernel_rfl) ?_
        clear hF a; intro a hF
        refine Og.st_pass hF (by kernel_rfl) rfl (by decide) ?_
        clear hF a; intro a hF
        refine Og.st_pass hF (by kernel_rfl) rfl (by decide) ?_
        clear hF a; intro a hF
        refine Og.st_pass hF (by kernel_rfl) rfl (by decide) ?_
        clear hF a; intro a hF
        refine Og.st_same_g (.bool true) hF (by kernel_rfl) rfl (by decide) (by kernel_rfl) ?_
        clear hF a; intro a hF
        refine Og.st_same (.bool true) hF rfl rfl (by decide) (by kernel_rfl) ?_
        clear hF a; intro a hF
        refine wpList_nil ?_
        obtain ⟨U, rfl⟩ := Og.Fr.lit_ex hF (fun U => ⟨#[U 0, .pointer (some ⟨w.heap.size, 0, none⟩), .bool false, .int .i64 c, U 4, U 5, U 6, U 7, U 8, U 9, U 10, U 11, U 12, U 13, U 14, U 15, U 16, U 17, U 18, U 19, U 20, U 21, U 22, U 23, U 24, U 25, U 26, U 27, U 28, U 29, U 30, U 31, U 32, U 33, U 34, U 35, U 36, U 37, U 38, U 39, U 40, U 41, U 42, U 43, U 44, U 45, U 46, U 47, U 48, U 49, U 50, U 51, U 52, U 53, U 54, U 55, .bool true, U 57, U 58, U 59, U 60, U 61, U 62, U 63, U 64, U 65, U 66, U 67, U 68, U 69, U 70, U 71, U 72, U 73, U 74, U 75, U 76, U 77, U 78, U 79, U 80, U 81, U 82, U 83, U 84, U 85, U 86, U 87], []⟩) (by kernel_rfl)
        clear hF
        refine key _ _ ⟨U, ?_⟩ hP hb hAw
        rw [show Wi.rOkG p c = false from by unfold Wi.rOkG; rw [hh]; rw [show (((p.g1 : Nat) : Int) == 0) = false from by simpa using hz1]; simp]
        rfl
    · refine wp_region_lit ?_
      refine Og.st_start (n := 88) rfl fun a hF => ?_
      refine Og.st_same (.int .i64 c) hF rfl rfl (by decide) (by kernel_rfl) ?_
      clear hF a; intro a hF
      refine Og.st_call (f := 44) (args := #[.int .i64 c, .int .i64 32]) hF rfl rfl (by decide) ((Og.exec_call rfl rhas_enter rfl _).trans (by kernel_rfl)) ((H32.out _ (hcb _ hb).1).out.mono ?_)
      rintro e w2 ⟨rfl, hb2⟩
      have hc3 := ((bcell hb2).1 G 3 hGlt).trans hc3
      have hc2 := ((bcell hb2).1 G 2 hGlt).trans hc2
      have hc1 := ((bcell hb2).1 G 1 hGlt).trans hc1
      have hc0 := ((bcell hb2).1 G 0 hGlt).trans hc0
      have hP := hP.below hb2
      have hb := hb.trans (hb2.mono hAw)
      have hAw := Nat.le_trans hAw hb2.size
      clear hb2
      refine ⟨_, rfl, ?_⟩
      clear hF a; intro a hF; rw [hh] at hF
      refine Og.st_same (.bool false) hF rfl rfl (by decide) (by kernel_rfl) ?_
      clear hF a; intro a hF
      refine Og.st_same (.bool false) hF rfl rfl (by decide) (by kernel_rfl) ?_
      clear hF a; intro a hF
      refine Og.st_pass hF (by kernel_rfl) rfl (by decide) ?_
      clear hF a; intro a hF
      refine Og.st_pass hF (by kernel_rfl) rfl (by decide) ?_
      clear hF a; intro a hF
      refine Og.st_pass hF (by kernel_rfl) rfl (by decide) ?_
      clear hF a; intro a hF
      refine Og.st_pass hF (by kernel_rfl) rfl (by decide) ?_
      clear hF a; intro a hF
      refine Og.st_pass hF (by kernel_rfl) rfl (by decide) ?_
      clear hF a; intro a hF
      refine Og.st_pass hF (by kernel_rfl) rfl (by decide) ?_
      clear hF a; intro a hF
      refine Og.st_pass hF (by kernel_rfl) rfl (by decide) ?_
      clear hF a; intro a hF
      refine Og.st_pass hF (by kernel_rfl) rfl (by decide) ?_
      clear hF a; intro a hF
      refine Og.st_pass hF (by kernel_rfl) rfl (by decide) ?_
      clear hF a; intro a hF
      refine Og.st_pass hF (by kernel_rfl) rfl (by decide) ?_
      clear hF a; intro a hF
      refine Og.st_pass hF (by kernel_rfl) rfl (by decide) ?_
      clear hF a; intro a hF
      refine Og.st_pass hF (by kernel_rfl) rfl (by decide) ?_
      clear hF a; intro a hF
      refine Og.st_pass hF (by kernel_rfl) rfl (by decide) ?_
      clear hF a; intro a hF
      refine Og.st_pass hF (by kernel_rfl) rfl (by decide) ?_
      clear hF a; intro a hF
      refine Og.st_pass hF (by kernel_rfl) rfl (by decide) ?_
      clear hF a; intro a hF
      refine Og.st_pass hF (by kernel_rfl) rfl (by decide) ?_
      clear hF a; intro a hF
      refine Og.st_pass hF (by kernel_rfl) rfl (by decide) ?_
      clear hF a; intro a hF
      refine Og.st_pass hF (by kernel_rfl) rfl (by decide) ?_
      clear hF a; intro a hF
      refine Og.st_same (.bool false) hF rfl rfl (by decide) (by kernel_rfl) ?_
      clear hF a; intro a hF
      refine wpList_nil ?_
      obtain ⟨U, rfl⟩ := Og.Fr.lit_ex hF (fun U => ⟨#[U 0, .pointer (some ⟨w.heap.size, 0, none⟩), .bool false, .int .i64 c, U 4, U 5, U 6, U 7, U 8, U 9, U 10, U 11, U 12, U 13, U 14, U 15, U 16, U 17, U 18, U 19, U 20, U 21, U 22, U 23, U 24, U 25, U 26, U 27, U 28, U 29, U 30, U 31, U 32, U 33, U 34, U 35, U 36, U 37, U 38, U 39, U 40, U 41, U 42, U 43, U 44, U 45, U 46, U 47, U 48, U 49, U 50, U 51, U 52, U 53, U 54, U 55, .bool false, U 57, U 58, U 59, U 60, U 61, U 62, U 63, U 64, U 65, U 66, U 67, U 68, U 69, U 70, U 71, U 72, U 73, U 74, U 75, U 76, U 77, U 78, U 79, U 80, U 81, U 82, U 83, U 84, U 85, U 86, U 87], []⟩) (by kernel_rfl)
      clear hF
      refine key _ _ ⟨U, ?_⟩ hP hb hAw
      rw [show Wi.rOkG p c = true from by unfold Wi.rOkG; rw [hh]; rfl]
      rfl
end Go.Proofs.YtbgfoobcpacfeaaDoor
