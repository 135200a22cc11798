/- The statement WireLists: the walk. (Printed by wip/w7gen/mkwl.py.) -/
import Derived.Test.YtbgfoobcpacfeaaDoorPk8
import Derived.Test.YtbgfoobcpacfeaaDoorWlLib
import Derived.Deep.Cut
namespace Go.Proofs.YtbgfoobcpacfeaaDoor
open Go.RowKit
set_option maxRecDepth 100000
set_option linter.unusedVariables false
set_option linter.unusedSimpArgs false

theorem encF_enter : Og.Enters Tryd.prog 31 := fun args w => by kernel_rfl
theorem decF_enter : Og.Enters Tryd.prog 33 := fun args w => by kernel_rfl
theorem ownF_enter : Og.Enters Tryd.prog 32 := fun args w => by kernel_rfl
theorem sameF_enter : Og.Enters Tryd.prog 34 := fun args w => by kernel_rfl
theorem decP_enter' : Og.Enters Tryd.prog 26 := fun args w => by kernel_rfl
/-- Within the loop: the Book holds, at most n lists are kept. -/
def WlS (W : World) (r B np nf c1 c2 : Nat) (q1 q2 : Option Addr) (i n : Nat) (a : Act) (w' : World) : Prop :=
  ∃ own Lf Lk, (∃ U : Nat → Value, a = ⟨#[.slice q1 np c1, .slice q2 nf c2, U 2, U 3, .bool false, .pointer (some ⟨r, 0, none⟩), .int .i64 i, U 7, U 8, U 9, U 10, U 11, U 12, U 13, U 14, U 15, U 16, U 17, U 18, U 19, U 20, U 21, U 22, U 23, U 24, U 25, U 26, U 27, U 28, U 29, U 30, U 31, U 32, U 33, U 34, U 35, U 36, U 37, U 38, U 39, U 40, U 41, U 42, U 43, U 44, U 45, U 46, U 47, U 48, U 49, U 50, U 51, U 52, U 53, U 54, U 55, U 56, U 57, U 58, U 59, U 60, U 61, U 62, U 63, U 64, U 65, U 66, U 67, U 68, U 69, U 70, U 71, U 72, U 73, U 74, U 75, U 76, U 77, U 78, U 79, U 80, U 81, U 82, U 83, U 84, U 85, U 86, U 87, U 88, U 89, U 90, U 91, U 92, U 93, U 94, U 95, U 96, U 97, U 98, U 99, U 100, U 101, U 102, U 103, U 104, U 105, U 106, U 107, U 108, U 109, U 110, U 111, U 112, U 113, U 114, U 115, U 116, U 117, U 118, U 119, U 120, U 121, U 122, U 123, U 124, U 125, U 126, U 127, U 128, U 129, U 130, U 131, U 132, U 133, U 134, U 135, U 136, U 137, U 138, U 139, U 140, U 141, U 142, U 143, U 144, U 145, U 146, U 147, U 148, U 149, U 150, U 151, U 152, U 153, U 154, U 155, U 156, U 157, U 158, U 159, U 160, U 161, U 162, U 163, U 164, U 165, U 166, U 167, U 168, U 169, U 170, U 171, U 172, U 173, U 174, U 175, U 176, U 177, U 178, U 179, U 180, U 181, U 182, U 183, U 184, U 185, U 186, U 187], []⟩) ∧ BkS w' r B own Lf Lk ∧ Lk.length ≤ n ∧ (∀ k, k < B → own k = 0) ∧ Below B W w' ∧ B ≤ w'.heap.size

set_option maxHeartbeats 16000000 in
theorem wireLists_calls {W : World} {pv fv : Value} {P : List Wi.Pk} {F : List Wi.Fr} (hP : SlPk W pv P) (hF : SlFr W fv F) (hS : Szs W) (hn : P.length ≤ 1048576) (hm : F.length ≤ 1048576) : Pur Tryd.prog 13 #[pv, fv] W (.bool true) := by
  unfold Pur
  obtain ⟨q1, c1, rfl, hpl, hPr⟩ := hP
  obtain ⟨q2, c2, rfl, hfl, hFr⟩ := hF
  generalize hnp : P.length = np at *
  generalize hnf : F.length = nf at *
  obtain ⟨B, hB⟩ : ∃ B, B = W.heap.size := ⟨_, rfl⟩
  have HP := Lib.hid hPr
  have HF := Lib.hid hFr
  clear hPr hFr
  go_enter Tryd.func13, Tryd.ntmps13
  go_wp2_with fail
  refine (example_calls hS).out.mono ?_
  rintro e w1 ⟨rfl, hb1⟩
  go_wp2_with fail
  obtain ⟨w2, hw2⟩ : ∃ w2, w2 = w1.alloc (.cells #[.slice none 0 0, .slice none 0 0, .slice none 0 0, .slice none 0 0, .int .i64 0] 65) := ⟨_, rfl⟩
  have hbk : w2.heap[w1.heap.size]? = some (.cells #[.slice none 0 0, .slice none 0 0, .slice none 0 0, .slice none 0 0, .int .i64 0] 65 (0, 0)) := by rw [hw2]; exact heap_new w1 _ _ rfl
  have hb2 : Below w1.heap.size w1 w2 := by rw [hw2]; exact below_alloc1 _ _
  rw [← hw2]
  clear hw2
  have hb02 : Below B W w2 := by rw [hB]; exact hb1.trans (hb2.mono hb1.size)
  have hBr : B ≤ w1.heap.size := by rw [hB]; exact hb1.size
  have hB2 : B ≤ w2.heap.size := Nat.le_trans hBr hb2.size
  generalize w1.heap.size = r at *
  clear hb1 hb2
  have hBk : BkS w2 r B (fun k => if k = r then 1 else 0) [] [] := ⟨fun _ => .slice none 0 0, fun _ => [], 0, ⟨hbk, fun _ _ => VR.nil_, by simp, fun j _ k e => (by cases e), hBr⟩, Freshly.nil_, Settled.nil_, Settled.nil_, Settled.nil_, Nat.zero_le _⟩
  have h00 : ∀ k, k < B → (if k = r then 1 else 0 : Nat) = 0 := fun k hk => if_neg (by omega)
  clear hbk
  obtain ⟨n, hn1, hn2, hn3⟩ : ∃ n, np ≤ n ∧ nf ≤ n ∧ (n ≤ np ∨ n ≤ nf) := ⟨max np nf, by omega, by omega, by omega⟩
  refine wp_loop_count (fun i => WlS W r B np nf c1 c2 q1 q2 i (48 * i)) n ⟨_, [], [], exU (fun U => ⟨#[.slice q1 np c1, .slice q2 nf c2, U 2, U 3, .bool false, .pointer (some ⟨r, 0, none⟩), .int .i64 (0 : Nat), U 7, U 8, U 9, U 10, U 11, U 12, U 13, U 14, U 15, U 16, U 17, U 18, U 19, U 20, U 21, U 22, U 23, U 24, U 25, U 26, U 27, U 28, U 29, U 30, U 31, U 32, U 33, U 34, U 35, U 36, U 37, U 38, U 39, U 40, U 41, U 42, U 43, U 44, U 45, U 46, U 47, U 48, U 49, U 50, U 51, U 52, U 53, U 54, U 55, U 56, U 57, U 58, U 59, U 60, U 61, U 62, U 63, U 64, U 65, U 66, U 67, U 68, U 69, U 70, U 71, U 72, U 73, U 74, U 75, U 76, U 77, U 78, U 79, U 80, U 81, U 82, U 83, U 84, U 85, U 86, U 87, U 88, U 89, U 90, U 91, U 92, U 93, U 94, U 95, U 96, U 97, U 98, U 99, U 100, U 101, U 102, U 103, U 104, U 105, U 106, U 107, U 108, U 109, U 110, U 111, U 112, U 113, U 114, U 115, U 116, U 117, U 118, U 119, U 120, U 121, U 122, U 123, U 124, U 125, U 126, U 127, U 128, U 129, U 130, U 131, U 132, U 133, U 134, U 135, U 136, U 137, U 138, U 139, U 140, U 141, U 142, U 143, U 144, U 145, U 146, U 147, U 148, U 149, U 150, U 151, U 152, U 153, U 154, U 155, U 156, U 157, U 158, U 159, U 160, U 161, U 162, U 163, U 164, U 165, U 166, U 167, U 168, U 169, U 170, U 171, U 172, U 173, U 174, U 175, U 176, U 177, U 178, U 179, U 180, U 181, U 182, U 183, U 184, U 185, U 186, U 187], []⟩) rfl, hBk, Nat.zero_le _, h00, hb02, hB2⟩ ?_ ?_
  · clear hBk h00 hb02 hB2 w2
    rintro i a w1 hi ⟨own, Lf, Lk, ⟨U, rfl⟩, hBk, hLk, h0, hb, hBw⟩
    have hi20 : i < 1048576 := by omega
    have hiw : IntKind.i64.wrap ((i : Int) + 1) = (i : Int) + 1 := IntWalk.i64_in _ ⟨by omega, by omega⟩
    go_upto_region 5 with fail
    rename_i K5 hnext
    have key : ∀ U : Nat → Value, K5 ⟨#[.slice q1 np c1, .slice q2 nf c2, U 2, U 3, .bool false, .pointer (some ⟨r, 0, none⟩), .int .i64 i, U 7, U 8, U 9, U 10, U 11, U 12, U 13, U 14, U 15, U 16, U 17, U 18, U 19, U 20, U 21, U 22, U 23, U 24, U 25, U 26, U 27, U 28, U 29, U 30, U 31, U 32, U 33, U 34, U 35, U 36, U 37, U 38, U 39, U 40, U 41, U 42, U 43, .bool true, U 45, U 46, U 47, U 48, U 49, U 50, U 51, U 52, U 53, U 54, U 55, U 56, U 57, U 58, U 59, U 60, U 61, U 62, U 63, U 64, U 65, U 66, U 67, U 68, U 69, U 70, U 71, U 72, U 73, U 74, U 75, U 76, U 77, U 78, U 79, U 80, U 81, U 82, U 83, U 84, U 85, U 86, U 87, U 88, U 89, U 90, U 91, U 92, U 93, U 94, U 95, U 96, U 97, U 98, U 99, U 100, U 101, U 102, U 103, U 104, U 105, U 106, U 107, U 108, U 109, U 110, U 111, U 112, U 113, U 114, U 115, U 116, U 117, U 118, U 119, U 120, U 121, U 122, U 123, U 124, U 125, U 126, U 127, U 128, U 129, U 130, U 131, U 132, U 133, U 134, U 135, U 136, U 137, U 138, U 139, U 140, U 141, U 142, U 143, U 144, U 145, U 146, U 147, U 148, U 149, U 150, U 151, U 152, U 153, U 154, U 155, U 156, U 157, U 158, U 159, U 160, U 161, U 162, U 163, U 164, U 165, U 166, U 167, U 168, U 169, U 170, U 171, U 172, U 173, U 174, U 175, U 176, U 177, U 178, U 179, U 180, U 181, U 182, U 183, U 184, U 185, U 186, U 187], []⟩ w1 := by
      intro U
      refine hnext _ _ ?_
      clear hnext
      obtain ⟨b0, hb0⟩ : ∃ b : Bool, b = decide ((i : Int) < (np : Int)) := ⟨_, rfl⟩
      obtain ⟨b1, hb1⟩ : ∃ b : Bool, b = decide ((i : Int) < (nf : Int)) := ⟨_, rfl⟩
      go_upto_region 7 with fail
      rename_i hnext
      refine wp_region_lit ?_
      refine Og.st_start (n := 188) rfl fun a hF => ?_
      refine Og.st_same (.int .i64 i) hF rfl rfl (by decide) (by kernel_rfl) ?_
      clear hF a; intro a hF
      refine Og.st_same (.slice q1 np c1) hF rfl rfl (by decide) (by kernel_rfl) ?_
      clear hF a; intro a hF
      refine Og.st_same (.int .i64 np) hF rfl rfl (by decide) (by kernel_rfl) ?_
      clear hF a; intro a hF
      refine Og.st_same (.bool (decide ((i : Int) < (np : Int)))) hF rfl rfl (by decide) (by kernel_rfl) ?_
      clear hF a; intro a hF
      rw [← hb0] at hF
      refine wpList_nil ?_
      obtain ⟨U, rfl⟩ := Og.Fr.lit_ex hF (fun U => ⟨#[.slice q1 np c1, .slice q2 nf c2, U 2, U 3, .bool false, .pointer (some ⟨r, 0, none⟩), .int .i64 i, U 7, U 8, U 9, U 10, U 11, U 12, U 13, U 14, U 15, U 16, U 17, U 18, U 19, U 20, U 21, U 22, U 23, U 24, U 25, U 26, U 27, U 28, U 29, U 30, U 31, U 32, U 33, U 34, U 35, U 36, U 37, U 38, U 39, U 40, U 41, U 42, U 43, U 44, U 45, U 46, U 47, U 48, U 49, .bool b0, U 51, U 52, U 53, U 54, U 55, U 56, U 57, U 58, U 59, U 60, U 61, U 62, U 63, U 64, U 65, U 66, U 67, U 68, U 69, U 70, U 71, U 72, U 73, U 74, U 75, U 76, U 77, U 78, U 79, U 80, U 81, U 82, U 83, U 84, U 85, U 86, U 87, U 88, U 89, U 90, U 91, U 92, U 93, U 94, U 95, U 96, U 97, U 98, U 99, U 100, U 101, U 102, U 103, U 104, U 105, U 106, U 107, U 108, U 109, U 110, U 111, U 112, U 113, U 114, U 115, U 116, U 117, U 118, U 119, U 120, U 121, U 122, U 123, U 124, U 125, U 126, U 127, U 128, U 129, U 130, U 131, U 132, U 133, U 134, U 135, U 136, U 137, U 138, U 139, U 140, U 141, U 142, U 143, U 144, U 145, U 146, U 147, U 148, U 149, U 150, U 151, U 152, U 153, U 154, U 155, U 156, U 157, U 158, U 159, U 160, U 161, U 162, U 163, U 164, U 165, U 166, U 167, U 168, U 169, U 170, U 171, U 172, U 173, U 174, U 175, U 176, U 177, U 178, U 179, U 180, U 181, U 182, U 183, U 184, U 185, U 186, U 187], []⟩) (by kernel_rfl)
      clear hF
      refine hnext _ _ ?_
      clear hnext
      go_upto_if 50 with fail
      rename_i hnext K7
      refine wp_cut (WlS W r B np nf c1 c2 q1 q2 i (48 * i + 24)) ?_ ?_
      · clear hBk hLk h0 hb hBw
        rintro a w1 ⟨own, Lf, Lk, ⟨U, rfl⟩, hBk, hLk, h0, hb, hBw⟩
        refine hnext _ _ ?_
        clear hnext
        go_upto_region 23 with fail
        rename_i hnext
        refine wp_region_lit ?_
        refine Og.st_start (n := 188) rfl fun a hF => ?_
        refine Og.st_same (.int .i64 i) hF rfl rfl (by decide) (by kernel_rfl) ?_
        clear hF a; intro a hF
        refine Og.st_same (.slice q2 nf c2) hF rfl rfl (by decide) (by kernel_rfl) ?_
        clear hF a; intro a hF
        refine Og.st_same (.int .i64 nf) hF rfl rfl (by decide) (by kernel_rfl) ?_
        clear hF a; intro a hF
        refine Og.st_same (.bool (decide ((i : Int) < (nf : Int)))) hF rfl rfl (by decide) (by kernel_rfl) ?_
        clear hF a; intro a hF
        rw [← hb1] at hF
        refine wpList_nil ?_
        obtain ⟨U, rfl⟩ := Og.Fr.lit_ex hF (fun U => ⟨#[.slice q1 np c1, .slice q2 nf c2, U 2, U 3, .bool false, .pointer (some ⟨r, 0, none⟩), .int .i64 i, U 7, U 8, U 9, U 10, U 11, U 12, U 13, U 14, U 15, U 16, U 17, U 18, U 19, U 20, U 21, U 22, U 23, U 24, U 25, U 26, U 27, U 28, U 29, U 30, U 31, U 32, U 33, U 34, U 35, U 36, U 37, U 38, U 39, U 40, U 41, U 42, U 43, U 44, U 45, U 46, U 47, U 48, U 49, U 50, U 51, U 52, U 53, U 54, U 55, U 56, U 57, U 58, U 59, U 60, U 61, U 62, U 63, U 64, U 65, U 66, U 67, U 68, U 69, U 70, U 71, U 72, U 73, U 74, U 75, U 76, U 77, U 78, U 79, U 80, U 81, U 82, U 83, U 84, U 85, U 86, U 87, U 88, U 89, U 90, U 91, U 92, U 93, U 94, U 95, U 96, U 97, U 98, U 99, U 100, U 101, U 102, U 103, U 104, U 105, U 106, U 107, U 108, U 109, U 110, U 111, U 112, U 113, U 114, U 115, U 116, U 117, U 118, U 119, .bool b1, U 121, U 122, U 123, U 124, U 125, U 126, U 127, U 128, U 129, U 130, U 131, U 132, U 133, U 134, U 135, U 136, U 137, U 138, U 139, U 140, U 141, U 142, U 143, U 144, U 145, U 146, U 147, U 148, U 149, U 150, U 151, U 152, U 153, U 154, U 155, U 156, U 157, U 158, U 159, U 160, U 161, U 162, U 163, U 164, U 165, U 166, U 167, U 168, U 169, U 170, U 171, U 172, U 173, U 174, U 175, U 176, U 177, U 178, U 179, U 180, U 181, U 182, U 183, U 184, U 185, U 186, U 187], []⟩) (by kernel_rfl)
        clear hF
        refine hnext _ _ ?_
        clear hnext
        go_upto_if 120 with fail
        rename_i hnext K23
        refine wp_cut (WlS W r B np nf c1 c2 q1 q2 i (48 * i + 48)) ?_ ?_
        · clear hBk hLk h0 hb hBw
          rintro a w1 ⟨own, Lf, Lk, ⟨U, rfl⟩, hBk, hLk, h0, hb, hBw⟩
          refine hnext _ _ ?_
          clear hnext
          go_upto_region 39 with fail
          rename_i hnext
          refine wp_region_lit ?_
          refine Og.st_start (n := 188) rfl fun a hF => ?_
          refine Og.st_same (.pointer (some ⟨r, 0, none⟩)) hF rfl rfl (by decide) (by kernel_rfl) ?_
          clear hF a; intro a hF
          refine Og.st_call (f := 37) (args := #[.pointer (some ⟨r, 0, none⟩)]) hF rfl rfl (by decide) ((Og.exec_call rfl bholds_enter rfl _).trans (by kernel_rfl)) ((hBk.holds.out).mono ?_)
          rintro e w2 ⟨rfl, hb2⟩
          refine ⟨_, rfl, ?_⟩
          clear hF a; intro a hF
          refine Og.st_same (.bool false) hF rfl rfl (by decide) (by kernel_rfl) ?_
          clear hF a; intro a hF
          refine wpList_nil ?_
          obtain ⟨U, rfl⟩ := Og.Fr.lit_ex hF (fun U => ⟨#[.slice q1 np c1, .slice q2 nf c2, U 2, U 3, .bool false, .pointer (some ⟨r, 0, none⟩), .int .i64 i, U 7, U 8, U 9, U 10, U 11, U 12, U 13, U 14, U 15, U 16, U 17, U 18, U 19, U 20, U 21, U 22, U 23, U 24, U 25, U 26, U 27, U 28, U 29, U 30, U 31, U 32, U 33, U 34, U 35, U 36, U 37, U 38, U 39, U 40, U 41, U 42, U 43, U 44, U 45, U 46, U 47, U 48, U 49, U 50, U 51, U 52, U 53, U 54, U 55, U 56, U 57, U 58, U 59, U 60, U 61, U 62, U 63, U 64, U 65, U 66, U 67, U 68, U 69, U 70, U 71, U 72, U 73, U 74, U 75, U 76, U 77, U 78, U 79, U 80, U 81, U 82, U 83, U 84, U 85, U 86, U 87, U 88, U 89, U 90, U 91, U 92, U 93, U 94, U 95, U 96, U 97, U 98, U 99, U 100, U 101, U 102, U 103, U 104, U 105, U 106, U 107, U 108, U 109, U 110, U 111, U 112, U 113, U 114, U 115, U 116, U 117, U 118, U 119, U 120, U 121, U 122, U 123, U 124, U 125, U 126, U 127, U 128, U 129, U 130, U 131, U 132, U 133, U 134, U 135, U 136, U 137, U 138, U 139, U 140, U 141, U 142, U 143, U 144, U 145, U 146, U 147, U 148, U 149, U 150, U 151, U 152, U 153, U 154, U 155, U 156, U 157, U 158, U 159, U 160, U 161, U 162, U 163, U 164, U 165, U 166, U 167, U 168, U 169, U 170, U 171, U 172, U 173, U 174, U 175, U 176, U 177, U 178, U 179, U 180, U 181, U 182, U 183, U 184, U 185, U 186, .bool false], []⟩) (by kernel_rfl)
          clear hF
          refine hnext _ _ ?_
          clear hnext
          go_wp2_with fail
          exact ⟨own, Lf, Lk, exU (fun U => ⟨#[.slice q1 np c1, .slice q2 nf c2, U 2, U 3, .bool false, .pointer (some ⟨r, 0, none⟩), .int .i64 (i + 1 : Nat), U 7, U 8, U 9, U 10, U 11, U 12, U 13, U 14, U 15, U 16, U 17, U 18, U 19, U 20, U 21, U 22, U 23, U 24, U 25, U 26, U 27, U 28, U 29, U 30, U 31, U 32, U 33, U 34, U 35, U 36, U 37, U 38, U 39, U 40, U 41, U 42, U 43, U 44, U 45, U 46, U 47, U 48, U 49, U 50, U 51, U 52, U 53, U 54, U 55, U 56, U 57, U 58, U 59, U 60, U 61, U 62, U 63, U 64, U 65, U 66, U 67, U 68, U 69, U 70, U 71, U 72, U 73, U 74, U 75, U 76, U 77, U 78, U 79, U 80, U 81, U 82, U 83, U 84, U 85, U 86, U 87, U 88, U 89, U 90, U 91, U 92, U 93, U 94, U 95, U 96, U 97, U 98, U 99, U 100, U 101, U 102, U 103, U 104, U 105, U 106, U 107, U 108, U 109, U 110, U 111, U 112, U 113, U 114, U 115, U 116, U 117, U 118, U 119, U 120, U 121, U 122, U 123, U 124, U 125, U 126, U 127, U 128, U 129, U 130, U 131, U 132, U 133, U 134, U 135, U 136, U 137, U 138, U 139, U 140, U 141, U 142, U 143, U 144, U 145, U 146, U 147, U 148, U 149, U 150, U 151, U 152, U 153, U 154, U 155, U 156, U 157, U 158, U 159, U 160, U 161, U 162, U 163, U 164, U 165, U 166, U 167, U 168, U 169, U 170, U 171, U 172, U 173, U 174, U 175, U 176, U 177, U 178, U 179, U 180, U 181, U 182, U 183, U 184, U 185, U 186, U 187], []⟩) rfl, hBk.chg hb2, by omega, h0, hb.trans (hb2.mono hBw), Nat.le_trans hBw hb2.size⟩
        · intro J K' hJ hK'
          have HJ := Lib.hid hJ
          clear hJ
          cases b1
          · go_wp2_with fail
            exact Met.intro (HJ.out _ _ ⟨own, Lf, Lk, exU (fun U => ⟨#[.slice q1 np c1, .slice q2 nf c2, U 2, U 3, .bool false, .pointer (some ⟨r, 0, none⟩), .int .i64 i, U 7, U 8, U 9, U 10, U 11, U 12, U 13, U 14, U 15, U 16, U 17, U 18, U 19, U 20, U 21, U 22, U 23, U 24, U 25, U 26, U 27, U 28, U 29, U 30, U 31, U 32, U 33, U 34, U 35, U 36, U 37, U 38, U 39, U 40, U 41, U 42, U 43, U 44, U 45, U 46, U 47, U 48, U 49, U 50, U 51, U 52, U 53, U 54, U 55, U 56, U 57, U 58, U 59, U 60, U 61, U 62, U 63, U 64, U 65, U 66, U 67, U 68, U 69, U 70, U 71, U 72, U 73, U 74, U 75, U 76, U 77, U 78, U 79, U 80, U 81, U 82, U 83, U 84, U 85, U 86, U 87, U 88, U 89, U 90, U 91, U 92, U 93, U 94, U 95, U 96, U 97, U 98, U 99, U 100, U 101, U 102, U 103, U 104, U 105, U 106, U 107, U 108, U 109, U 110, U 111, U 112, U 113, U 114, U 115, U 116, U 117, U 118, U 119, U 120, U 121, U 122, U 123, U 124, U 125, U 126, U 127, U 128, U 129, U 130, U 131, U 132, U 133, U 134, U 135, U 136, U 137, U 138, U 139, U 140, U 141, U 142, U 143, U 144, U 145, U 146, U 147, U 148, U 149, U 150, U 151, U 152, U 153, U 154, U 155, U 156, U 157, U 158, U 159, U 160, U 161, U 162, U 163, U 164, U 165, U 166, U 167, U 168, U 169, U 170, U 171, U 172, U 173, U 174, U 175, U 176, U 177, U 178, U 179, U 180, U 181, U 182, U 183, U 184, U 185, U 186, U 187], []⟩) rfl, hBk, by omega, h0, hb, hBw⟩)
          · have hlt : i < nf := by simpa using hb1.symm
            obtain ⟨x, hIn⟩ : ∃ x, F[i]? = some x := ⟨F[i]'(by omega), List.getElem?_eq_getElem (by omega)⟩
            obtain ⟨g, o, pv, hq, hg, hok, hrb, hrange⟩ := HF.out i x hIn
            have hbW : Below W.heap.size W w1 := by rw [← hB]; exact hb
            replace hrb := hrb.below hbW
            replace hrange := range_below hg hrange hbW
            have hSz := hS.below hbW
            have hone : pv.oneCell' = true := by obtain ⟨pp, pc, e⟩ := hrb.form; rw [e]; rfl
            have hback := Wi.fback hok
            have hsm := Wi.fout_small hok
            have hdec := fun (w : World) (v : Value) (hr : RB w v (Wi.encOut x)) => decodeFrame_calls hr
            unfold Reads at hdec
            generalize hu1 : Wi.decFr (Wi.encOut x) = u1 at *
            generalize he1 : Wi.decErr (Wi.encOut x) = e1 at *
            have hback0 := hback.2
            have hd1 : u1.pay.length ≤ 1099511627776 := by have := hback.1; omega
            clear hback hu1 he1
            go_upto_region 24 with fail
            rename_i hnext
            refine wp_region_lit ?_
            refine Og.st_start (n := 188) rfl fun a hF => ?_
            refine Og.st_same (.slice q2 nf c2) hF rfl rfl (by decide) (by kernel_rfl) ?_
            clear hF a; intro a hF
            refine Og.st_same (.int .i64 i) hF rfl rfl (by decide) (by kernel_rfl) ?_
            clear hF a; intro a hF
            refine Og.st_same (.pointer (some ⟨g, o + i * 6, none⟩)) hF rfl rfl (by decide) (exec_idx rfl (show (Instr.indexAt 61 (.slice q2 nf c2) (.int .i64 i)).run Tryd.prog w1 = _ from by rw [hq]; exact idx_fr w1 g o nf c2 i hlt)) ?_
            clear hF a; intro a hF
            refine Og.st_same (.agg (frameC x pv)) hF rfl rfl (by decide) (Og.exec_load rfl (load_fr_at hrange)) ?_
            clear hF a; intro a hF
            refine Og.st_val (w' := w1.alloc (.cells (frameC Wi.zero (.slice none 0 0)) 50)) (.pointer (some ⟨w1.heap.size, 0, none⟩)) hF rfl rfl (by decide) (alloc_fr rfl w1) ?_
            clear hF a; intro a hF
            have hL := heap_new w1 (.cells (frameC Wi.zero (.slice none 0 0)) 50) w1.heap.size rfl
            have hba := below_alloc1 w1 (.cells (frameC Wi.zero (.slice none 0 0)) 50)
            refine Og.st_skip (w' := (w1.alloc (.cells (frameC Wi.zero (.slice none 0 0)) 50)).setCells w1.heap.size 0 ((frameC x pv).toList)) hF rfl rfl
              (exec_store (o := 0) (vs := (frameC x pv).toList) (cs := (frameC Wi.zero (.slice none 0 0)).toList) rfl rfl rfl hL (Nat.le_refl 6) fr_i (frL_one x pv hone)) ?_
            clear hF a; intro a hF
            have hIt : FrAt ((w1.alloc (.cells (frameC Wi.zero (.slice none 0 0)) 50)).setCells w1.heap.size 0 ((frameC x pv).toList)) w1.heap.size x pv := setCells_heap ((frameC x pv).toList) 0 (w1.alloc (.cells (frameC Wi.zero (.slice none 0 0)) 50)) (frameC Wi.zero (.slice none 0 0)).toList hL
            have hb12 : Below w1.heap.size w1 ((w1.alloc (.cells (frameC Wi.zero (.slice none 0 0)) 50)).setCells w1.heap.size 0 ((frameC x pv).toList)) := hba.grown (setCells_grown _ w1.heap.size 0 _) (by simp) (fun k hk => by injection hk with hk; omega)
            clear hL hba
            generalize (w1.alloc (.cells (frameC Wi.zero (.slice none 0 0)) 50)).setCells w1.heap.size 0 ((frameC x pv).toList) = w2 at *
            obtain ⟨D0, hD0⟩ : ∃ D, D = w1.heap.size := ⟨_, rfl⟩
            rw [← hD0] at hIt hF
            replace hrb := hrb.below hb12
            replace hSz := hSz.below hb12
            replace hBk := hBk.chg hb12
            replace hb := hb.trans (hb12.mono hBw)
            replace hBw := Nat.le_trans hBw hb12.size
            clear hD0 hrange hbW
            refine wpList_nil ?_
            obtain ⟨U, rfl⟩ := Og.Fr.lit_ex hF (fun U => ⟨#[.slice q1 np c1, .slice q2 nf c2, U 2, U 3, .bool false, .pointer (some ⟨r, 0, none⟩), .int .i64 i, U 7, U 8, U 9, U 10, U 11, U 12, U 13, U 14, U 15, U 16, U 17, U 18, U 19, .pointer (some ⟨D0, 0, none⟩), U 21, U 22, U 23, U 24, U 25, U 26, U 27, U 28, U 29, U 30, U 31, U 32, U 33, U 34, U 35, U 36, U 37, U 38, U 39, U 40, U 41, U 42, U 43, U 44, U 45, U 46, U 47, U 48, U 49, U 50, U 51, U 52, U 53, U 54, U 55, U 56, U 57, U 58, U 59, U 60, U 61, U 62, U 63, U 64, U 65, U 66, U 67, U 68, U 69, U 70, U 71, U 72, U 73, U 74, U 75, U 76, U 77, U 78, U 79, U 80, U 81, U 82, U 83, U 84, U 85, U 86, U 87, U 88, U 89, U 90, U 91, U 92, U 93, U 94, U 95, U 96, U 97, U 98, U 99, U 100, U 101, U 102, U 103, U 104, U 105, U 106, U 107, U 108, U 109, U 110, U 111, U 112, U 113, U 114, U 115, U 116, U 117, U 118, U 119, U 120, U 121, U 122, U 123, U 124, U 125, U 126, U 127, U 128, U 129, U 130, U 131, U 132, U 133, U 134, U 135, U 136, U 137, U 138, U 139, U 140, U 141, U 142, U 143, U 144, U 145, U 146, U 147, U 148, U 149, U 150, U 151, U 152, U 153, U 154, U 155, U 156, U 157, U 158, U 159, U 160, U 161, U 162, U 163, U 164, U 165, U 166, U 167, U 168, U 169, U 170, U 171, U 172, U 173, U 174, U 175, U 176, U 177, U 178, U 179, U 180, U 181, U 182, U 183, U 184, U 185, U 186, U 187], []⟩) (by kernel_rfl)
            clear hF
            refine hnext _ _ ?_
            clear hnext
            go_upto_region 25 with fail
            rename_i hnext
            refine wp_region_lit ?_
            refine Og.st_start (n := 188) rfl fun a hF => ?_
            refine Og.st_same (.agg (frameC x pv)) hF rfl rfl (by decide) (Og.exec_load rfl (load_fr hIt)) ?_
            clear hF a; intro a hF
            refine Og.st_call (f := 32) (args := #[.agg (frameC x pv)]) hF rfl rfl (by decide) ((Og.exec_call rfl ownF_enter rfl _).trans (by kernel_rfl)) ((ownFrame_calls x hrb).mono ?_)
            rintro e w3 ⟨ov, rfl, hov, hbw2w3⟩
            refine ⟨_, rfl, ?_⟩
            clear hF a; intro a hF
            replace hIt := hIt.below hbw2w3
            replace hrb := hrb.below hbw2w3
            replace hSz := hSz.below hbw2w3
            replace hBk := hBk.chg hbw2w3
            replace hb := hb.trans (hbw2w3.mono hBw)
            replace hBw := Nat.le_trans hBw hbw2w3.size
            refine Og.st_call (f := 31) (args := #[.agg (frameC x ov)]) hF rfl rfl (by decide) ((Og.exec_call rfl encF_enter rfl _).trans (by kernel_rfl)) (((encodeFrame_calls x hov hok : Calls _ _ _ _ _)).mono ?_)
            rintro e w4 ⟨xv, rfl, hxv, hbw3w4⟩
            refine ⟨_, rfl, ?_⟩
            clear hF a; intro a hF
            replace hIt := hIt.below hbw3w4
            replace hrb := hrb.below hbw3w4
            replace hSz := hSz.below hbw3w4
            have hxvk := fun k e => hxv.lt k e
            refine Og.st_same (.tuple #[xv, .int .i64 (Wi.encErr x)]) hF rfl rfl (by decide) (by kernel_rfl) ?_
            clear hF a; intro a hF
            refine Og.st_same (xv) hF rfl rfl (by decide) (by kernel_rfl) ?_
            clear hF a; intro a hF
            refine Og.st_same (.int .i64 (Wi.encErr x)) hF rfl rfl (by decide) (by kernel_rfl) ?_
            clear hF a; intro a hF
            refine Og.st_same (xv) hF rfl rfl (by decide) (by kernel_rfl) ?_
            clear hF a; intro a hF
            refine Og.st_same (.int .i64 (Wi.encErr x)) hF rfl rfl (by decide) (by kernel_rfl) ?_
            clear hF a; intro a hF
            refine wpList_nil ?_
            obtain ⟨U, rfl⟩ := Og.Fr.lit_ex hF (fun U => ⟨#[.slice q1 np c1, .slice q2 nf c2, U 2, U 3, .bool false, .pointer (some ⟨r, 0, none⟩), .int .i64 i, U 7, U 8, U 9, U 10, U 11, U 12, U 13, U 14, U 15, U 16, U 17, U 18, U 19, .pointer (some ⟨D0, 0, none⟩), xv, .int .i64 (Wi.encErr x), U 23, U 24, U 25, U 26, U 27, U 28, U 29, U 30, U 31, U 32, U 33, U 34, U 35, U 36, U 37, U 38, U 39, U 40, U 41, U 42, U 43, U 44, U 45, U 46, U 47, U 48, U 49, U 50, U 51, U 52, U 53, U 54, U 55, U 56, U 57, U 58, U 59, U 60, U 61, U 62, U 63, U 64, U 65, U 66, U 67, U 68, U 69, U 70, U 71, U 72, U 73, U 74, U 75, U 76, U 77, U 78, U 79, U 80, U 81, U 82, U 83, U 84, U 85, U 86, U 87, U 88, U 89, U 90, U 91, U 92, U 93, U 94, U 95, U 96, U 97, U 98, U 99, U 100, U 101, U 102, U 103, U 104, U 105, U 106, U 107, U 108, U 109, U 110, U 111, U 112, U 113, U 114, U 115, U 116, U 117, U 118, U 119, U 120, U 121, U 122, U 123, U 124, U 125, U 126, U 127, U 128, U 129, U 130, U 131, U 132, U 133, U 134, U 135, U 136, U 137, U 138, U 139, U 140, U 141, U 142, U 143, U 144, U 145, U 146, U 147, U 148, U 149, U 150, U 151, U 152, U 153, U 154, U 155, U 156, U 157, U 158, U 159, U 160, U 161, U 162, U 163, U 164, U 165, U 166, U 167, U 168, U 169, U 170, U 171, U 172, U 173, U 174, U 175, U 176, U 177, U 178, U 179, U 180, U 181, U 182, U 183, U 184, U 185, U 186, U 187], []⟩) (by kernel_rfl)
            clear hF
            refine hnext _ _ ?_
            clear hnext
            go_upto_region 26 with fail
            rename_i hnext
            refine wp_region_lit ?_
            refine Og.st_start (n := 188) rfl fun a hF => ?_
            refine Og.st_same (xv) hF rfl rfl (by decide) (by kernel_rfl) ?_
            clear hF a; intro a hF
            refine Og.st_call (f := 30) (args := #[xv]) hF rfl rfl (by decide) ((Og.exec_call rfl copied_enter rfl _).trans (by kernel_rfl)) ((copied_calls hxv.rb).mono ?_)
            rintro e w5 ⟨yv, rfl, hyv, hbw4w5⟩
            refine ⟨_, rfl, ?_⟩
            clear hF a; intro a hF
            replace hIt := hIt.below hbw4w5
            replace hrb := hrb.below hbw4w5
            replace hSz := hSz.below hbw4w5
            replace hxv := hxv.below hbw4w5
            have hyvk := fun k e => hyv.lt k e
            refine Og.st_same (yv) hF rfl rfl (by decide) (by kernel_rfl) ?_
            clear hF a; intro a hF
            refine wpList_nil ?_
            obtain ⟨U, rfl⟩ := Og.Fr.lit_ex hF (fun U => ⟨#[.slice q1 np c1, .slice q2 nf c2, U 2, U 3, .bool false, .pointer (some ⟨r, 0, none⟩), .int .i64 i, U 7, U 8, U 9, U 10, U 11, U 12, U 13, U 14, U 15, U 16, U 17, U 18, U 19, .pointer (some ⟨D0, 0, none⟩), xv, .int .i64 (Wi.encErr x), yv, U 24, U 25, U 26, U 27, U 28, U 29, U 30, U 31, U 32, U 33, U 34, U 35, U 36, U 37, U 38, U 39, U 40, U 41, U 42, U 43, U 44, U 45, U 46, U 47, U 48, U 49, U 50, U 51, U 52, U 53, U 54, U 55, U 56, U 57, U 58, U 59, U 60, U 61, U 62, U 63, U 64, U 65, U 66, U 67, U 68, U 69, U 70, U 71, U 72, U 73, U 74, U 75, U 76, U 77, U 78, U 79, U 80, U 81, U 82, U 83, U 84, U 85, U 86, U 87, U 88, U 89, U 90, U 91, U 92, U 93, U 94, U 95, U 96, U 97, U 98, U 99, U 100, U 101, U 102, U 103, U 104, U 105, U 106, U 107, U 108, U 109, U 110, U 111, U 112, U 113, U 114, U 115, U 116, U 117, U 118, U 119, U 120, U 121, U 122, U 123, U 124, U 125, U 126, U 127, U 128, U 129, U 130, U 131, U 132, U 133, U 134, U 135, U 136, U 137, U 138, U 139, U 140, U 141, U 142, U 143, U 144, U 145, U 146, U 147, U 148, U 149, U 150, U 151, U 152, U 153, U 154, U 155, U 156, U 157, U 158, U 159, U 160, U 161, U 162, U 163, U 164, U 165, U 166, U 167, U 168, U 169, U 170, U 171, U 172, U 173, U 174, U 175, U 176, U 177, U 178, U 179, U 180, U 181, U 182, U 183, U 184, U 185, U 186, U 187], []⟩) (by kernel_rfl)
            clear hF
            refine hnext _ _ ?_
            clear hnext
            go_upto_region 27 with fail
            rename_i hnext
            refine wp_region_lit ?_
            refine Og.st_start (n := 188) rfl fun a hF => ?_
            refine Og.st_same (yv) hF rfl rfl (by decide) (by kernel_rfl) ?_
            clear hF a; intro a hF
            refine Og.st_call (f := 33) (args := #[yv]) hF rfl rfl (by decide) ((Og.exec_call rfl decF_enter rfl _).trans (by kernel_rfl)) ((hdec _ _ hyv.rb).mono ?_)
            rintro e w5a ⟨qv, rfl, hqv, hbw5w5a⟩
            refine ⟨_, rfl, ?_⟩
            clear hF a; intro a hF
            replace hIt := hIt.below hbw5w5a
            replace hrb := hrb.below hbw5w5a
            replace hSz := hSz.below hbw5w5a
            replace hxv := hxv.below hbw5w5a
            replace hyv := hyv.below hbw5w5a
            have hqvk := fun k e => hqv.lt k e
            have hqv1 : qv.oneCell' = true := by obtain ⟨pp, pc, e⟩ := hqv.rb.form; rw [e]; rfl
            refine Og.st_same (.tuple #[.agg (frameC u1 qv), .int .i64 e1]) hF rfl rfl (by decide) (by kernel_rfl) ?_
            clear hF a; intro a hF
            refine Og.st_same (.agg (frameC u1 qv)) hF rfl rfl (by decide) (by kernel_rfl) ?_
            clear hF a; intro a hF
            refine Og.st_same (.int .i64 e1) hF rfl rfl (by decide) (by kernel_rfl) ?_
            clear hF a; intro a hF
            refine Og.st_val (w' := w5a.alloc (.cells (frameC Wi.zero (.slice none 0 0)) 50)) (.pointer (some ⟨w5a.heap.size, 0, none⟩)) hF rfl rfl (by decide) (alloc_fr rfl w5a) ?_
            clear hF a; intro a hF
            have hL := heap_new w5a (.cells (frameC Wi.zero (.slice none 0 0)) 50) w5a.heap.size rfl
            have hba := below_alloc1 w5a (.cells (frameC Wi.zero (.slice none 0 0)) 50)
            refine Og.st_skip (w' := (w5a.alloc (.cells (frameC Wi.zero (.slice none 0 0)) 50)).setCells w5a.heap.size 0 ((frameC u1 qv).toList)) hF rfl rfl
              (exec_store (o := 0) (vs := (frameC u1 qv).toList) (cs := (frameC Wi.zero (.slice none 0 0)).toList) rfl rfl rfl hL (Nat.le_refl 6) fr_i (frL_one u1 qv hqv1)) ?_
            clear hF a; intro a hF
            have hQ1 : FrAt ((w5a.alloc (.cells (frameC Wi.zero (.slice none 0 0)) 50)).setCells w5a.heap.size 0 ((frameC u1 qv).toList)) w5a.heap.size u1 qv := setCells_heap ((frameC u1 qv).toList) 0 (w5a.alloc (.cells (frameC Wi.zero (.slice none 0 0)) 50)) (frameC Wi.zero (.slice none 0 0)).toList hL
            have hbw5aw6 : Below w5a.heap.size w5a ((w5a.alloc (.cells (frameC Wi.zero (.slice none 0 0)) 50)).setCells w5a.heap.size 0 ((frameC u1 qv).toList)) := hba.grown (setCells_grown _ w5a.heap.size 0 _) (by simp) (fun k hk => by injection hk with hk; omega)
            clear hL hba
            generalize (w5a.alloc (.cells (frameC Wi.zero (.slice none 0 0)) 50)).setCells w5a.heap.size 0 ((frameC u1 qv).toList) = w6 at *
            obtain ⟨D1, hD1⟩ : ∃ D, D = w5a.heap.size := ⟨_, rfl⟩
            rw [← hD1] at hQ1 hF
            replace hIt := hIt.below hbw5aw6
            replace hrb := hrb.below hbw5aw6
            replace hSz := hSz.below hbw5aw6
            replace hxv := hxv.below hbw5aw6
            replace hyv := hyv.below hbw5aw6
            replace hqv := hqv.below hbw5aw6
            have hD1lt := hQ1.lt
            refine Og.st_same (.int .i64 e1) hF rfl rfl (by decide) (by kernel_rfl) ?_
            clear hF a; intro a hF
            refine wpList_nil ?_
            obtain ⟨U, rfl⟩ := Og.Fr.lit_ex hF (fun U => ⟨#[.slice q1 np c1, .slice q2 nf c2, U 2, U 3, .bool false, .pointer (some ⟨r, 0, none⟩), .int .i64 i, U 7, U 8, U 9, U 10, U 11, U 12, U 13, U 14, U 15, U 16, U 17, U 18, U 19, .pointer (some ⟨D0, 0, none⟩), xv, .int .i64 (Wi.encErr x), yv, .pointer (some ⟨D1, 0, none⟩), .int .i64 e1, U 26, U 27, U 28, U 29, U 30, U 31, U 32, U 33, U 34, U 35, U 36, U 37, U 38, U 39, U 40, U 41, U 42, U 43, U 44, U 45, U 46, U 47, U 48, U 49, U 50, U 51, U 52, U 53, U 54, U 55, U 56, U 57, U 58, U 59, U 60, U 61, U 62, U 63, U 64, U 65, U 66, U 67, U 68, U 69, U 70, U 71, U 72, U 73, U 74, U 75, U 76, U 77, U 78, U 79, U 80, U 81, U 82, U 83, U 84, U 85, U 86, U 87, U 88, U 89, U 90, U 91, U 92, U 93, U 94, U 95, U 96, U 97, U 98, U 99, U 100, U 101, U 102, U 103, U 104, U 105, U 106, U 107, U 108, U 109, U 110, U 111, U 112, U 113, U 114, U 115, U 116, U 117, U 118, U 119, U 120, U 121, U 122, U 123, U 124, U 125, U 126, U 127, U 128, U 129, U 130, U 131, U 132, U 133, U 134, U 135, U 136, U 137, U 138, U 139, U 140, U 141, U 142, U 143, U 144, U 145, U 146, U 147, U 148, U 149, U 150, U 151, U 152, U 153, U 154, U 155, U 156, U 157, U 158, U 159, U 160, U 161, U 162, U 163, U 164, U 165, U 166, U 167, U 168, U 169, U 170, U 171, U 172, U 173, U 174, U 175, U 176, U 177, U 178, U 179, U 180, U 181, U 182, U 183, U 184, U 185, U 186, U 187], []⟩) (by kernel_rfl)
            clear hF
            refine hnext _ _ ?_
            clear hnext
            go_upto_region 28 with fail
            rename_i K12 hnext
            have key2 : ∀ (U : Nat → Value) (w7 : World), Below w6.heap.size w6 w7 → K12 ⟨#[.slice q1 np c1, .slice q2 nf c2, U 2, U 3, .bool false, .pointer (some ⟨r, 0, none⟩), .int .i64 i, U 7, U 8, U 9, U 10, U 11, U 12, U 13, U 14, U 15, U 16, U 17, U 18, U 19, .pointer (some ⟨D0, 0, none⟩), xv, .int .i64 (Wi.encErr x), yv, .pointer (some ⟨D1, 0, none⟩), .int .i64 e1, U 26, U 27, U 28, U 29, U 30, U 31, U 32, U 33, U 34, U 35, U 36, U 37, U 38, U 39, U 40, U 41, U 42, U 43, U 44, U 45, U 46, U 47, U 48, U 49, U 50, U 51, U 52, U 53, U 54, U 55, U 56, U 57, U 58, U 59, U 60, U 61, U 62, U 63, U 64, U 65, U 66, U 67, U 68, U 69, U 70, U 71, U 72, U 73, U 74, U 75, U 76, U 77, U 78, U 79, U 80, U 81, U 82, U 83, U 84, U 85, U 86, U 87, U 88, U 89, U 90, U 91, U 92, U 93, U 94, U 95, U 96, U 97, U 98, U 99, U 100, U 101, U 102, U 103, U 104, U 105, U 106, U 107, U 108, U 109, U 110, U 111, U 112, U 113, U 114, U 115, U 116, U 117, U 118, U 119, U 120, U 121, U 122, U 123, U 124, U 125, U 126, U 127, U 128, U 129, U 130, U 131, U 132, U 133, U 134, U 135, U 136, U 137, U 138, U 139, U 140, U 141, U 142, U 143, U 144, U 145, U 146, U 147, U 148, U 149, U 150, .bool false, U 152, U 153, U 154, U 155, U 156, U 157, U 158, U 159, U 160, U 161, U 162, U 163, U 164, U 165, U 166, U 167, U 168, U 169, U 170, U 171, U 172, U 173, U 174, U 175, U 176, U 177, U 178, U 179, U 180, U 181, U 182, U 183, U 184, U 185, U 186, U 187], []⟩ w7 := by
              intro U w7 hb67
              refine hnext _ _ ?_
              clear hnext
              replace hIt := hIt.below hb67
              replace hrb := hrb.below hb67
              replace hSz := hSz.below hb67
              replace hQ1 := hQ1.below hb67
              replace hxv := hxv.below hb67
              replace hyv := hyv.below hb67
              replace hqv := hqv.below hb67
              go_upto_region 30 with fail
              rename_i hnext
              refine wp_region_lit ?_
              refine Og.st_start (n := 188) rfl fun a hF => ?_
              refine Og.st_same (.agg (frameC x pv)) hF rfl rfl (by decide) (Og.exec_load rfl (load_fr hIt)) ?_
              clear hF a; intro a hF
              refine Og.st_call (f := 32) (args := #[.agg (frameC x pv)]) hF rfl rfl (by decide) ((Og.exec_call rfl ownF_enter rfl _).trans (by kernel_rfl)) ((ownFrame_calls x hrb).mono ?_)
              rintro e w8 ⟨ov2, rfl, hov2, hbw7w8⟩
              refine ⟨_, rfl, ?_⟩
              clear hF a; intro a hF
              replace hIt := hIt.below hbw7w8
              replace hrb := hrb.below hbw7w8
              replace hSz := hSz.below hbw7w8
              replace hQ1 := hQ1.below hbw7w8
              replace hxv := hxv.below hbw7w8
              replace hyv := hyv.below hbw7w8
              replace hqv := hqv.below hbw7w8
              refine Og.st_call (f := 31) (args := #[.agg (frameC x ov2)]) hF rfl rfl (by decide) ((Og.exec_call rfl encF_enter rfl _).trans (by kernel_rfl)) (((encodeFrame_calls x hov2 hok : Calls _ _ _ _ _)).mono ?_)
              rintro e w9 ⟨x2v, rfl, hx2v, hbw8w9⟩
              refine ⟨_, rfl, ?_⟩
              clear hF a; intro a hF
              replace hIt := hIt.below hbw8w9
              replace hrb := hrb.below hbw8w9
              replace hSz := hSz.below hbw8w9
              replace hQ1 := hQ1.below hbw8w9
              replace hxv := hxv.below hbw8w9
              replace hyv := hyv.below hbw8w9
              replace hqv := hqv.below hbw8w9
              have hx2vk := fun k e => hx2v.lt k e
              refine Og.st_same (.tuple #[x2v, .int .i64 (Wi.encErr x)]) hF rfl rfl (by decide) (by kernel_rfl) ?_
              clear hF a; intro a hF
              refine Og.st_same (x2v) hF rfl rfl (by decide) (by kernel_rfl) ?_
              clear hF a; intro a hF
              refine Og.st_same (.int .i64 (Wi.encErr x)) hF rfl rfl (by decide) (by kernel_rfl) ?_
              clear hF a; intro a hF
              refine Og.st_same (x2v) hF rfl rfl (by decide) (by kernel_rfl) ?_
              clear hF a; intro a hF
              refine Og.st_same (.int .i64 (Wi.encErr x)) hF rfl rfl (by decide) (by kernel_rfl) ?_
              clear hF a; intro a hF
              refine wpList_nil ?_
              obtain ⟨U, rfl⟩ := Og.Fr.lit_ex hF (fun U => ⟨#[.slice q1 np c1, .slice q2 nf c2, U 2, U 3, .bool false, .pointer (some ⟨r, 0, none⟩), .int .i64 i, U 7, U 8, U 9, U 10, U 11, U 12, U 13, U 14, U 15, U 16, U 17, U 18, U 19, .pointer (some ⟨D0, 0, none⟩), xv, U 22, yv, .pointer (some ⟨D1, 0, none⟩), U 25, x2v, U 27, U 28, U 29, U 30, U 31, U 32, U 33, U 34, U 35, U 36, U 37, U 38, U 39, U 40, U 41, U 42, U 43, U 44, U 45, U 46, U 47, U 48, U 49, U 50, U 51, U 52, U 53, U 54, U 55, U 56, U 57, U 58, U 59, U 60, U 61, U 62, U 63, U 64, U 65, U 66, U 67, U 68, U 69, U 70, U 71, U 72, U 73, U 74, U 75, U 76, U 77, U 78, U 79, U 80, U 81, U 82, U 83, U 84, U 85, U 86, U 87, U 88, U 89, U 90, U 91, U 92, U 93, U 94, U 95, U 96, U 97, U 98, U 99, U 100, U 101, U 102, U 103, U 104, U 105, U 106, U 107, U 108, U 109, U 110, U 111, U 112, U 113, U 114, U 115, U 116, U 117, U 118, U 119, U 120, U 121, U 122, U 123, U 124, U 125, U 126, U 127, U 128, U 129, U 130, U 131, U 132, U 133, U 134, U 135, U 136, U 137, U 138, U 139, U 140, U 141, U 142, U 143, U 144, U 145, U 146, U 147, U 148, U 149, U 150, U 151, U 152, U 153, U 154, U 155, U 156, U 157, U 158, U 159, U 160, U 161, U 162, U 163, U 164, U 165, U 166, U 167, U 168, U 169, U 170, U 171, U 172, U 173, U 174, U 175, U 176, U 177, U 178, U 179, U 180, U 181, U 182, U 183, U 184, U 185, U 186, U 187], []⟩) (by kernel_rfl)
              clear hF
              refine hnext _ _ ?_
              clear hnext
              go_upto_region 31 with fail
              rename_i hnext
              refine wp_region_lit ?_
              refine Og.st_start (n := 188) rfl fun a hF => ?_
              refine Og.st_same (xv) hF rfl rfl (by decide) (by kernel_rfl) ?_
              clear hF a; intro a hF
              refine Og.st_call (f := 30) (args := #[xv]) hF rfl rfl (by decide) ((Og.exec_call rfl copied_enter rfl _).trans (by kernel_rfl)) ((copied_calls hxv.rb).mono ?_)
              rintro e w10 ⟨y2v, rfl, hy2v, hbw9w10⟩
              refine ⟨_, rfl, ?_⟩
              clear hF a; intro a hF
              replace hIt := hIt.below hbw9w10
              replace hrb := hrb.below hbw9w10
              replace hSz := hSz.below hbw9w10
              replace hQ1 := hQ1.below hbw9w10
              replace hxv := hxv.below hbw9w10
              replace hyv := hyv.below hbw9w10
              replace hqv := hqv.below hbw9w10
              replace hx2v := hx2v.below hbw9w10
              have hy2vk := fun k e => hy2v.lt k e
              refine Og.st_same (y2v) hF rfl rfl (by decide) (by kernel_rfl) ?_
              clear hF a; intro a hF
              refine wpList_nil ?_
              obtain ⟨U, rfl⟩ := Og.Fr.lit_ex hF (fun U => ⟨#[.slice q1 np c1, .slice q2 nf c2, U 2, U 3, .bool false, .pointer (some ⟨r, 0, none⟩), .int .i64 i, U 7, U 8, U 9, U 10, U 11, U 12, U 13, U 14, U 15, U 16, U 17, U 18, U 19, .pointer (some ⟨D0, 0, none⟩), xv, U 22, yv, .pointer (some ⟨D1, 0, none⟩), U 25, x2v, U 27, y2v, U 29, U 30, U 31, U 32, U 33, U 34, U 35, U 36, U 37, U 38, U 39, U 40, U 41, U 42, U 43, U 44, U 45, U 46, U 47, U 48, U 49, U 50, U 51, U 52, U 53, U 54, U 55, U 56, U 57, U 58, U 59, U 60, U 61, U 62, U 63, U 64, U 65, U 66, U 67, U 68, U 69, U 70, U 71, U 72, U 73, U 74, U 75, U 76, U 77, U 78, U 79, U 80, U 81, U 82, U 83, U 84, U 85, U 86, U 87, U 88, U 89, U 90, U 91, U 92, U 93, U 94, U 95, U 96, U 97, U 98, U 99, U 100, U 101, U 102, U 103, U 104, U 105, U 106, U 107, U 108, U 109, U 110, U 111, U 112, U 113, U 114, U 115, U 116, U 117, U 118, U 119, U 120, U 121, U 122, U 123, U 124, U 125, U 126, U 127, U 128, U 129, U 130, U 131, U 132, U 133, U 134, U 135, U 136, U 137, U 138, U 139, U 140, U 141, U 142, U 143, U 144, U 145, U 146, U 147, U 148, U 149, U 150, U 151, U 152, U 153, U 154, U 155, U 156, U 157, U 158, U 159, U 160, U 161, U 162, U 163, U 164, U 165, U 166, U 167, U 168, U 169, U 170, U 171, U 172, U 173, U 174, U 175, U 176, U 177, U 178, U 179, U 180, U 181, U 182, U 183, U 184, U 185, U 186, U 187], []⟩) (by kernel_rfl)
              clear hF
              refine hnext _ _ ?_
              clear hnext
              go_upto_region 32 with fail
              rename_i hnext
              refine wp_region_lit ?_
              refine Og.st_start (n := 188) rfl fun a hF => ?_
              refine Og.st_same (y2v) hF rfl rfl (by decide) (by kernel_rfl) ?_
              clear hF a; intro a hF
              refine Og.st_call (f := 33) (args := #[y2v]) hF rfl rfl (by decide) ((Og.exec_call rfl decF_enter rfl _).trans (by kernel_rfl)) ((hdec _ _ hy2v.rb).mono ?_)
              rintro e w10a ⟨q2v, rfl, hq2v, hbw10w10a⟩
              refine ⟨_, rfl, ?_⟩
              clear hF a; intro a hF
              replace hIt := hIt.below hbw10w10a
              replace hrb := hrb.below hbw10w10a
              replace hSz := hSz.below hbw10w10a
              replace hQ1 := hQ1.below hbw10w10a
              replace hxv := hxv.below hbw10w10a
              replace hyv := hyv.below hbw10w10a
              replace hqv := hqv.below hbw10w10a
              replace hx2v := hx2v.below hbw10w10a
              replace hy2v := hy2v.below hbw10w10a
              have hq2vk := fun k e => hq2v.lt k e
              have hq2v1 : q2v.oneCell' = true := by obtain ⟨pp, pc, e⟩ := hq2v.rb.form; rw [e]; rfl
              refine Og.st_same (.tuple #[.agg (frameC u1 q2v), .int .i64 e1]) hF rfl rfl (by decide) (by kernel_rfl) ?_
              clear hF a; intro a hF
              refine Og.st_same (.agg (frameC u1 q2v)) hF rfl rfl (by decide) (by kernel_rfl) ?_
              clear hF a; intro a hF
              refine Og.st_same (.int .i64 e1) hF rfl rfl (by decide) (by kernel_rfl) ?_
              clear hF a; intro a hF
              refine Og.st_val (w' := w10a.alloc (.cells (frameC Wi.zero (.slice none 0 0)) 50)) (.pointer (some ⟨w10a.heap.size, 0, none⟩)) hF rfl rfl (by decide) (alloc_fr rfl w10a) ?_
              clear hF a; intro a hF
              have hL := heap_new w10a (.cells (frameC Wi.zero (.slice none 0 0)) 50) w10a.heap.size rfl
              have hba := below_alloc1 w10a (.cells (frameC Wi.zero (.slice none 0 0)) 50)
              refine Og.st_skip (w' := (w10a.alloc (.cells (frameC Wi.zero (.slice none 0 0)) 50)).setCells w10a.heap.size 0 ((frameC u1 q2v).toList)) hF rfl rfl
                (exec_store (o := 0) (vs := (frameC u1 q2v).toList) (cs := (frameC Wi.zero (.slice none 0 0)).toList) rfl rfl rfl hL (Nat.le_refl 6) fr_i (frL_one u1 q2v hq2v1)) ?_
              clear hF a; intro a hF
              have hQ2 : FrAt ((w10a.alloc (.cells (frameC Wi.zero (.slice none 0 0)) 50)).setCells w10a.heap.size 0 ((frameC u1 q2v).toList)) w10a.heap.size u1 q2v := setCells_heap ((frameC u1 q2v).toList) 0 (w10a.alloc (.cells (frameC Wi.zero (.slice none 0 0)) 50)) (frameC Wi.zero (.slice none 0 0)).toList hL
              have hbw10aw11 : Below w10a.heap.size w10a ((w10a.alloc (.cells (frameC Wi.zero (.slice none 0 0)) 50)).setCells w10a.heap.size 0 ((frameC u1 q2v).toList)) := hba.grown (setCells_grown _ w10a.heap.size 0 _) (by simp) (fun k hk => by injection hk with hk; omega)
              clear hL hba
              generalize (w10a.alloc (.cells (frameC Wi.zero (.slice none 0 0)) 50)).setCells w10a.heap.size 0 ((frameC u1 q2v).toList) = w11 at *
              obtain ⟨D2, hD2⟩ : ∃ D, D = w10a.heap.size := ⟨_, rfl⟩
              rw [← hD2] at hQ2 hF
              replace hIt := hIt.below hbw10aw11
              replace hrb := hrb.below hbw10aw11
              replace hSz := hSz.below hbw10aw11
              replace hQ1 := hQ1.below hbw10aw11
              replace hxv := hxv.below hbw10aw11
              replace hyv := hyv.below hbw10aw11
              replace hqv := hqv.below hbw10aw11
              replace hx2v := hx2v.below hbw10aw11
              replace hy2v := hy2v.below hbw10aw11
              replace hq2v := hq2v.below hbw10aw11
              have hD2lt := hQ2.lt
              refine Og.st_same (.int .i64 e1) hF rfl rfl (by decide) (by kernel_rfl) ?_
              clear hF a; intro a hF
              refine wpList_nil ?_
              obtain ⟨U, rfl⟩ := Og.Fr.lit_ex hF (fun U => ⟨#[.slice q1 np c1, .slice q2 nf c2, U 2, U 3, .bool false, .pointer (some ⟨r, 0, none⟩), .int .i64 i, U 7, U 8, U 9, U 10, U 11, U 12, U 13, U 14, U 15, U 16, U 17, U 18, U 19, .pointer (some ⟨D0, 0, none⟩), xv, U 22, yv, .pointer (some ⟨D1, 0, none⟩), U 25, x2v, U 27, y2v, .pointer (some ⟨D2, 0, none⟩), U 30, U 31, U 32, U 33, U 34, U 35, U 36, U 37, U 38, U 39, U 40, U 41, U 42, U 43, U 44, U 45, U 46, U 47, U 48, U 49, U 50, U 51, U 52, U 53, U 54, U 55, U 56, U 57, U 58, U 59, U 60, U 61, U 62, U 63, U 64, U 65, U 66, U 67, U 68, U 69, U 70, U 71, U 72, U 73, U 74, U 75, U 76, U 77, U 78, U 79, U 80, U 81, U 82, U 83, U 84, U 85, U 86, U 87, U 88, U 89, U 90, U 91, U 92, U 93, U 94, U 95, U 96, U 97, U 98, U 99, U 100, U 101, U 102, U 103, U 104, U 105, U 106, U 107, U 108, U 109, U 110, U 111, U 112, U 113, U 114, U 115, U 116, U 117, U 118, U 119, U 120, U 121, U 122, U 123, U 124, U 125, U 126, U 127, U 128, U 129, U 130, U 131, U 132, U 133, U 134, U 135, U 136, U 137, U 138, U 139, U 140, U 141, U 142, U 143, U 144, U 145, U 146, U 147, U 148, U 149, U 150, U 151, U 152, U 153, U 154, U 155, U 156, U 157, U 158, U 159, U 160, U 161, U 162, U 163, U 164, U 165, U 166, U 167, U 168, U 169, U 170, U 171, U 172, U 173, U 174, U 175, U 176, U 177, U 178, U 179, U 180, U 181, U 182, U 183, U 184, U 185, U 186, U 187], []⟩) (by kernel_rfl)
              clear hF
              refine hnext _ _ ?_
              clear hnext
              have zw3w4 := hbw3w4.size
              have zw4w5 := hbw4w5.size
              have zw5w5a := hbw5w5a.size
              have zw5aw6 := hbw5aw6.size
              have zw6w7 := hb67.size
              have zw7w8 := hbw7w8.size
              have zw8w9 := hbw8w9.size
              have zw9w10 := hbw9w10.size
              have zw10w10a := hbw10w10a.size
              have zw10aw11 := hbw10aw11.size
              have hbA : Below w3.heap.size w3 w11 := (((((((((hbw3w4).trans (hbw4w5.mono (by omega))).trans (hbw5w5a.mono (by omega))).trans (hbw5aw6.mono (by omega))).trans (hb67.mono (by omega))).trans (hbw7w8.mono (by omega))).trans (hbw8w9.mono (by omega))).trans (hbw9w10.mono (by omega))).trans (hbw10w10a.mono (by omega))).trans (hbw10aw11.mono (by omega))
              replace hBk : BkS w11 r B (own6 own w3.heap.size w4.heap.size w5.heap.size w6.heap.size w9.heap.size w10.heap.size) Lf Lk := (hBk.retag (fun k hk => own6_old hk)).chg hbA
              replace hb := hb.trans (hbA.mono hBw)
              replace h0 : ∀ k, k < B → own6 own w3.heap.size w4.heap.size w5.heap.size w6.heap.size w9.heap.size w10.heap.size k = 0 := fun k hk => (own6_old (by omega)).trans (h0 k hk)
              have p20 : Pend (own6 own w3.heap.size w4.heap.size w5.heap.size w6.heap.size w9.heap.size w10.heap.size) B w11 xv (Wi.encOut x) 20 := ⟨hxv.more hBw, by omega, fun k e => by have := hxvk k e; exact own6_20 this.1 this.2⟩
              have p21 : Pend (own6 own w3.heap.size w4.heap.size w5.heap.size w6.heap.size w9.heap.size w10.heap.size) B w11 yv (Wi.encOut x) 21 := ⟨hyv.more (by omega), by omega, fun k e => by have := hyvk k e; exact own6_21 (by omega) this.1 this.2⟩
              have p22 : Pend (own6 own w3.heap.size w4.heap.size w5.heap.size w6.heap.size w9.heap.size w10.heap.size) B w11 qv u1.pay 22 := ⟨hqv.more (by omega), hd1, fun k e => by have := hqvk k e; exact own6_22 (by omega) (by omega) this.1 (by omega)⟩
              have p23 : Pend (own6 own w3.heap.size w4.heap.size w5.heap.size w6.heap.size w9.heap.size w10.heap.size) B w11 x2v (Wi.encOut x) 23 := ⟨hx2v.more (by omega), by omega, fun k e => by have := hx2vk k e; exact own6_23 (by omega) (by omega) (by omega) (by omega) this.2⟩
              have p24 : Pend (own6 own w3.heap.size w4.heap.size w5.heap.size w6.heap.size w9.heap.size w10.heap.size) B w11 y2v (Wi.encOut x) 24 := ⟨hy2v.more (by omega), by omega, fun k e => by have := hy2vk k e; exact own6_24 (by omega) (by omega) (by omega) (by omega) this.1 this.2⟩
              have p25 : Pend (own6 own w3.heap.size w4.heap.size w5.heap.size w6.heap.size w9.heap.size w10.heap.size) B w11 q2v u1.pay 25 := ⟨hq2v.more (by omega), hd1, fun k e => by have := hq2vk k e; exact own6_25 (by omega) (by omega) (by omega) (by omega) (by omega) this.1⟩
              have tD1 : own6 own w3.heap.size w4.heap.size w5.heap.size w6.heap.size w9.heap.size w10.heap.size D1 = 22 := own6_22 (by omega) (by omega) (by omega) (by omega)
              have tD2 : own6 own w3.heap.size w4.heap.size w5.heap.size w6.heap.size w9.heap.size w10.heap.size D2 = 25 := own6_25 (by omega) (by omega) (by omega) (by omega) (by omega) (by omega)
              have hBw11 : B ≤ w11.heap.size := by omega
              replace hD1lt := hQ1.lt
              replace hD2lt := hQ2.lt
              clear hxv hyv hqv hx2v hy2v hq2v hIt hrb hSz hbA
              generalize own6 own w3.heap.size w4.heap.size w5.heap.size w6.heap.size w9.heap.size w10.heap.size = ownQ at *
              have hLk6 : Lk.length + 24 ≤ 48 * i + 48 := by omega
              go_upto_region 33 with fail
              rename_i hnext
              refine wp_region_lit ?_
              refine Og.st_start (n := 188) rfl fun a hF => ?_
              refine Og.st_same (.pointer (some ⟨r, 0, none⟩)) hF rfl rfl (by decide) (by kernel_rfl) ?_
              clear hF a; intro a hF
              refine Og.st_same (xv) hF rfl rfl (by decide) (by kernel_rfl) ?_
              clear hF a; intro a hF
              refine Og.st_call (f := 36) (args := #[.pointer (some ⟨r, 0, none⟩), xv]) hF rfl rfl (by decide) ((Og.exec_call rfl bkeep_enter rfl _).trans (by kernel_rfl)) ((bkeep_calls hBk hBw11 p20.ob p20.len (p := 20) (by decide) p20.tag (by omega)).mono ?_)
              rintro e v0 ⟨rfl, ow0, Lf0, Lk0, hBkN, hLN, hCN, hag⟩
              refine ⟨_, rfl, ?_⟩
              clear hF a; intro a hF
              replace p21 := p21.keep hCN hag (by decide) (by decide)
              replace p22 := p22.keep hCN hag (by decide) (by decide)
              replace p23 := p23.keep hCN hag (by decide) (by decide)
              replace p24 := p24.keep hCN hag (by decide) (by decide)
              replace p25 := p25.keep hCN hag (by decide) (by decide)
              replace hQ2 := hQ2.chg hCN (by rw [tD2]; rfl)
              replace tD2 := (hag D2 hD2lt (by rw [tD2]; rfl)).trans tD2
              replace hD2lt := hQ2.lt
              replace hQ1 := hQ1.chg hCN (by rw [tD1]; rfl)
              replace tD1 := (hag D1 hD1lt (by rw [tD1]; rfl)).trans tD1
              replace hD1lt := hQ1.lt
              replace hb := hb.trans (hCN.lowB hBw11 h0 rfl (Nat.le_refl _))
              replace h0 : ∀ k, k < B → ow0 k = 0 := fun k hk => (hag k (by omega) (by rw [h0 k hk]; rfl)).trans (h0 k hk)
              replace hBw11 : B ≤ v0.heap.size := Nat.le_trans hBw11 hCN.size
              replace hBk := hBkN
              clear hBkN hCN hag
              refine wpList_nil ?_
              obtain ⟨U, rfl⟩ := Og.Fr.lit_ex hF (fun U => ⟨#[.slice q1 np c1, .slice q2 nf c2, U 2, U 3, .bool false, .pointer (some ⟨r, 0, none⟩), .int .i64 i, U 7, U 8, U 9, U 10, U 11, U 12, U 13, U 14, U 15, U 16, U 17, U 18, U 19, .pointer (some ⟨D0, 0, none⟩), xv, U 22, yv, .pointer (some ⟨D1, 0, none⟩), U 25, x2v, U 27, y2v, .pointer (some ⟨D2, 0, none⟩), U 30, U 31, U 32, U 33, U 34, U 35, U 36, U 37, U 38, U 39, U 40, U 41, U 42, U 43, U 44, U 45, U 46, U 47, U 48, U 49, U 50, U 51, U 52, U 53, U 54, U 55, U 56, U 57, U 58, U 59, U 60, U 61, U 62, U 63, U 64, U 65, U 66, U 67, U 68, U 69, U 70, U 71, U 72, U 73, U 74, U 75, U 76, U 77, U 78, U 79, U 80, U 81, U 82, U 83, U 84, U 85, U 86, U 87, U 88, U 89, U 90, U 91, U 92, U 93, U 94, U 95, U 96, U 97, U 98, U 99, U 100, U 101, U 102, U 103, U 104, U 105, U 106, U 107, U 108, U 109, U 110, U 111, U 112, U 113, U 114, U 115, U 116, U 117, U 118, U 119, U 120, U 121, U 122, U 123, U 124, U 125, U 126, U 127, U 128, U 129, U 130, U 131, U 132, U 133, U 134, U 135, U 136, U 137, U 138, U 139, U 140, U 141, U 142, U 143, U 144, U 145, U 146, U 147, U 148, U 149, U 150, U 151, U 152, U 153, U 154, U 155, U 156, U 157, U 158, U 159, U 160, U 161, U 162, U 163, U 164, U 165, U 166, U 167, U 168, U 169, U 170, U 171, U 172, U 173, U 174, U 175, U 176, U 177, U 178, U 179, U 180, U 181, U 182, U 183, U 184, U 185, U 186, U 187], []⟩) (by kernel_rfl)
              clear hF
              refine hnext _ _ ?_
              clear hnext
              go_upto_region 34 with fail
              rename_i hnext
              refine wp_region_lit ?_
              refine Og.st_start (n := 188) rfl fun a hF => ?_
              refine Og.st_same (.pointer (some ⟨r, 0, none⟩)) hF rfl rfl (by decide) (by kernel_rfl) ?_
              clear hF a; intro a hF
              refine Og.st_same (x2v) hF rfl rfl (by decide) (by kernel_rfl) ?_
              clear hF a; intro a hF
              refine Og.st_call (f := 36) (args := #[.pointer (some ⟨r, 0, none⟩), x2v]) hF rfl rfl (by decide) ((Og.exec_call rfl bkeep_enter rfl _).trans (by kernel_rfl)) ((bkeep_calls hBk hBw11 p23.ob p23.len (p := 23) (by decide) p23.tag (by omega)).mono ?_)
              rintro e v1 ⟨rfl, ow1, Lf1, Lk1, hBkN, hLN, hCN, hag⟩
              refine ⟨_, rfl, ?_⟩
              clear hF a; intro a hF
              replace p21 := p21.keep hCN hag (by decide) (by decide)
              replace p22 := p22.keep hCN hag (by decide) (by decide)
              replace p24 := p24.keep hCN hag (by decide) (by decide)
              replace p25 := p25.keep hCN hag (by decide) (by decide)
              replace hQ2 := hQ2.chg hCN (by rw [tD2]; rfl)
              replace tD2 := (hag D2 hD2lt (by rw [tD2]; rfl)).trans tD2
              replace hD2lt := hQ2.lt
              replace hQ1 := hQ1.chg hCN (by rw [tD1]; rfl)
              replace tD1 := (hag D1 hD1lt (by rw [tD1]; rfl)).trans tD1
              replace hD1lt := hQ1.lt
              replace hb := hb.trans (hCN.lowB hBw11 h0 rfl (Nat.le_refl _))
              replace h0 : ∀ k, k < B → ow1 k = 0 := fun k hk => (hag k (by omega) (by rw [h0 k hk]; rfl)).trans (h0 k hk)
              replace hBw11 : B ≤ v1.heap.size := Nat.le_trans hBw11 hCN.size
              replace hBk := hBkN
              clear hBkN hCN hag
              refine wpList_nil ?_
              obtain ⟨U, rfl⟩ := Og.Fr.lit_ex hF (fun U => ⟨#[.slice q1 np c1, .slice q2 nf c2, U 2, U 3, .bool false, .pointer (some ⟨r, 0, none⟩), .int .i64 i, U 7, U 8, U 9, U 10, U 11, U 12, U 13, U 14, U 15, U 16, U 17, U 18, U 19, .pointer (some ⟨D0, 0, none⟩), xv, U 22, yv, .pointer (some ⟨D1, 0, none⟩), U 25, x2v, U 27, y2v, .pointer (some ⟨D2, 0, none⟩), U 30, U 31, U 32, U 33, U 34, U 35, U 36, U 37, U 38, U 39, U 40, U 41, U 42, U 43, U 44, U 45, U 46, U 47, U 48, U 49, U 50, U 51, U 52, U 53, U 54, U 55, U 56, U 57, U 58, U 59, U 60, U 61, U 62, U 63, U 64, U 65, U 66, U 67, U 68, U 69, U 70, U 71, U 72, U 73, U 74, U 75, U 76, U 77, U 78, U 79, U 80, U 81, U 82, U 83, U 84, U 85, U 86, U 87, U 88, U 89, U 90, U 91, U 92, U 93, U 94, U 95, U 96, U 97, U 98, U 99, U 100, U 101, U 102, U 103, U 104, U 105, U 106, U 107, U 108, U 109, U 110, U 111, U 112, U 113, U 114, U 115, U 116, U 117, U 118, U 119, U 120, U 121, U 122, U 123, U 124, U 125, U 126, U 127, U 128, U 129, U 130, U 131, U 132, U 133, U 134, U 135, U 136, U 137, U 138, U 139, U 140, U 141, U 142, U 143, U 144, U 145, U 146, U 147, U 148, U 149, U 150, U 151, U 152, U 153, U 154, U 155, U 156, U 157, U 158, U 159, U 160, U 161, U 162, U 163, U 164, U 165, U 166, U 167, U 168, U 169, U 170, U 171, U 172, U 173, U 174, U 175, U 176, U 177, U 178, U 179, U 180, U 181, U 182, U 183, U 184, U 185, U 186, U 187], []⟩) (by kernel_rfl)
              clear hF
              refine hnext _ _ ?_
              clear hnext
              go_upto_region 35 with fail
              rename_i hnext
              refine wp_region_lit ?_
              refine Og.st_start (n := 188) rfl fun a hF => ?_
              refine Og.st_same (.pointer (some ⟨r, 0, none⟩)) hF rfl rfl (by decide) (by kernel_rfl) ?_
              clear hF a; intro a hF
              refine Og.st_same (.pointer (some ⟨D1, 5, none⟩)) hF rfl rfl (by decide) (by kernel_rfl) ?_
              clear hF a; intro a hF
              refine Og.st_same (qv) hF rfl rfl (by decide) (Og.exec_load rfl (ld_fpay hQ1 p22.ob.rb)) ?_
              clear hF a; intro a hF
              refine Og.st_call (f := 36) (args := #[.pointer (some ⟨r, 0, none⟩), qv]) hF rfl rfl (by decide) ((Og.exec_call rfl bkeep_enter rfl _).trans (by kernel_rfl)) ((bkeep_calls hBk hBw11 p22.ob p22.len (p := 22) (by decide) p22.tag (by omega)).mono ?_)
              rintro e v2 ⟨rfl, ow2, Lf2, Lk2, hBkN, hLN, hCN, hag⟩
              refine ⟨_, rfl, ?_⟩
              clear hF a; intro a hF
              replace p21 := p21.keep hCN hag (by decide) (by decide)
              replace p24 := p24.keep hCN hag (by decide) (by decide)
              replace p25 := p25.keep hCN hag (by decide) (by decide)
              replace hQ2 := hQ2.chg hCN (by rw [tD2]; rfl)
              replace tD2 := (hag D2 hD2lt (by rw [tD2]; rfl)).trans tD2
              replace hD2lt := hQ2.lt
              replace hb := hb.trans (hCN.lowB hBw11 h0 rfl (Nat.le_refl _))
              replace h0 : ∀ k, k < B → ow2 k = 0 := fun k hk => (hag k (by omega) (by rw [h0 k hk]; rfl)).trans (h0 k hk)
              replace hBw11 : B ≤ v2.heap.size := Nat.le_trans hBw11 hCN.size
              replace hBk := hBkN
              clear hBkN hCN hag
              refine wpList_nil ?_
              obtain ⟨U, rfl⟩ := Og.Fr.lit_ex hF (fun U => ⟨#[.slice q1 np c1, .slice q2 nf c2, U 2, U 3, .bool false, .pointer (some ⟨r, 0, none⟩), .int .i64 i, U 7, U 8, U 9, U 10, U 11, U 12, U 13, U 14, U 15, U 16, U 17, U 18, U 19, .pointer (some ⟨D0, 0, none⟩), xv, U 22, yv, .pointer (some ⟨D1, 0, none⟩), U 25, x2v, U 27, y2v, .pointer (some ⟨D2, 0, none⟩), U 30, U 31, U 32, U 33, U 34, U 35, U 36, U 37, U 38, U 39, U 40, U 41, U 42, U 43, U 44, U 45, U 46, U 47, U 48, U 49, U 50, U 51, U 52, U 53, U 54, U 55, U 56, U 57, U 58, U 59, U 60, U 61, U 62, U 63, U 64, U 65, U 66, U 67, U 68, U 69, U 70, U 71, U 72, U 73, U 74, U 75, U 76, U 77, U 78, U 79, U 80, U 81, U 82, U 83, U 84, U 85, U 86, U 87, U 88, U 89, U 90, U 91, U 92, U 93, U 94, U 95, U 96, U 97, U 98, U 99, U 100, U 101, U 102, U 103, U 104, U 105, U 106, U 107, U 108, U 109, U 110, U 111, U 112, U 113, U 114, U 115, U 116, U 117, U 118, U 119, U 120, U 121, U 122, U 123, U 124, U 125, U 126, U 127, U 128, U 129, U 130, U 131, U 132, U 133, U 134, U 135, U 136, U 137, U 138, U 139, U 140, U 141, U 142, U 143, U 144, U 145, U 146, U 147, U 148, U 149, U 150, U 151, U 152, U 153, U 154, U 155, U 156, U 157, U 158, U 159, U 160, U 161, U 162, U 163, U 164, U 165, U 166, U 167, U 168, U 169, U 170, U 171, U 172, U 173, U 174, U 175, U 176, U 177, U 178, U 179, U 180, U 181, U 182, U 183, U 184, U 185, U 186, U 187], []⟩) (by kernel_rfl)
              clear hF
              refine hnext _ _ ?_
              clear hnext
              go_upto_region 36 with fail
              rename_i hnext
              refine wp_region_lit ?_
              refine Og.st_start (n := 188) rfl fun a hF => ?_
              refine Og.st_same (.pointer (some ⟨r, 0, none⟩)) hF rfl rfl (by decide) (by kernel_rfl) ?_
              clear hF a; intro a hF
              refine Og.st_same (.pointer (some ⟨D2, 5, none⟩)) hF rfl rfl (by decide) (by kernel_rfl) ?_
              clear hF a; intro a hF
              refine Og.st_same (q2v) hF rfl rfl (by decide) (Og.exec_load rfl (ld_fpay hQ2 p25.ob.rb)) ?_
              clear hF a; intro a hF
              refine Og.st_call (f := 36) (args := #[.pointer (some ⟨r, 0, none⟩), q2v]) hF rfl rfl (by decide) ((Og.exec_call rfl bkeep_enter rfl _).trans (by kernel_rfl)) ((bkeep_calls hBk hBw11 p25.ob p25.len (p := 25) (by decide) p25.tag (by omega)).mono ?_)
              rintro e v3 ⟨rfl, ow3, Lf3, Lk3, hBkN, hLN, hCN, hag⟩
              refine ⟨_, rfl, ?_⟩
              clear hF a; intro a hF
              replace p21 := p21.keep hCN hag (by decide) (by decide)
              replace p24 := p24.keep hCN hag (by decide) (by decide)
              replace hb := hb.trans (hCN.lowB hBw11 h0 rfl (Nat.le_refl _))
              replace h0 : ∀ k, k < B → ow3 k = 0 := fun k hk => (hag k (by omega) (by rw [h0 k hk]; rfl)).trans (h0 k hk)
              replace hBw11 : B ≤ v3.heap.size := Nat.le_trans hBw11 hCN.size
              replace hBk := hBkN
              clear hBkN hCN hag
              refine wpList_nil ?_
              obtain ⟨U, rfl⟩ := Og.Fr.lit_ex hF (fun U => ⟨#[.slice q1 np c1, .slice q2 nf c2, U 2, U 3, .bool false, .pointer (some ⟨r, 0, none⟩), .int .i64 i, U 7, U 8, U 9, U 10, U 11, U 12, U 13, U 14, U 15, U 16, U 17, U 18, U 19, .pointer (some ⟨D0, 0, none⟩), xv, U 22, yv, .pointer (some ⟨D1, 0, none⟩), U 25, x2v, U 27, y2v, .pointer (some ⟨D2, 0, none⟩), U 30, U 31, U 32, U 33, U 34, U 35, U 36, U 37, U 38, U 39, U 40, U 41, U 42, U 43, U 44, U 45, U 46, U 47, U 48, U 49, U 50, U 51, U 52, U 53, U 54, U 55, U 56, U 57, U 58, U 59, U 60, U 61, U 62, U 63, U 64, U 65, U 66, U 67, U 68, U 69, U 70, U 71, U 72, U 73, U 74, U 75, U 76, U 77, U 78, U 79, U 80, U 81, U 82, U 83, U 84, U 85, U 86, U 87, U 88, U 89, U 90, U 91, U 92, U 93, U 94, U 95, U 96, U 97, U 98, U 99, U 100, U 101, U 102, U 103, U 104, U 105, U 106, U 107, U 108, U 109, U 110, U 111, U 112, U 113, U 114, U 115, U 116, U 117, U 118, U 119, U 120, U 121, U 122, U 123, U 124, U 125, U 126, U 127, U 128, U 129, U 130, U 131, U 132, U 133, U 134, U 135, U 136, U 137, U 138, U 139, U 140, U 141, U 142, U 143, U 144, U 145, U 146, U 147, U 148, U 149, U 150, U 151, U 152, U 153, U 154, U 155, U 156, U 157, U 158, U 159, U 160, U 161, U 162, U 163, U 164, U 165, U 166, U 167, U 168, U 169, U 170, U 171, U 172, U 173, U 174, U 175, U 176, U 177, U 178, U 179, U 180, U 181, U 182, U 183, U 184, U 185, U 186, U 187], []⟩) (by kernel_rfl)
              clear hF
              refine hnext _ _ ?_
              clear hnext
              go_upto_region 37 with fail
              rename_i hnext
              refine wp_region_lit ?_
              refine Og.st_start (n := 188) rfl fun a hF => ?_
              refine Og.st_same (.pointer (some ⟨r, 0, none⟩)) hF rfl rfl (by decide) (by kernel_rfl) ?_
              clear hF a; intro a hF
              refine Og.st_same (yv) hF rfl rfl (by decide) (by kernel_rfl) ?_
              clear hF a; intro a hF
              refine Og.st_call (f := 36) (args := #[.pointer (some ⟨r, 0, none⟩), yv]) hF rfl rfl (by decide) ((Og.exec_call rfl bkeep_enter rfl _).trans (by kernel_rfl)) ((bkeep_calls hBk hBw11 p21.ob p21.len (p := 21) (by decide) p21.tag (by omega)).mono ?_)
              rintro e v4 ⟨rfl, ow4, Lf4, Lk4, hBkN, hLN, hCN, hag⟩
              refine ⟨_, rfl, ?_⟩
              clear hF a; intro a hF
              replace p24 := p24.keep hCN hag (by decide) (by decide)
              replace hb := hb.trans (hCN.lowB hBw11 h0 rfl (Nat.le_refl _))
              replace h0 : ∀ k, k < B → ow4 k = 0 := fun k hk => (hag k (by omega) (by rw [h0 k hk]; rfl)).trans (h0 k hk)
              replace hBw11 : B ≤ v4.heap.size := Nat.le_trans hBw11 hCN.size
              replace hBk := hBkN
              clear hBkN hCN hag
              refine wpList_nil ?_
              obtain ⟨U, rfl⟩ := Og.Fr.lit_ex hF (fun U => ⟨#[.slice q1 np c1, .slice q2 nf c2, U 2, U 3, .bool false, .pointer (some ⟨r, 0, none⟩), .int .i64 i, U 7, U 8, U 9, U 10, U 11, U 12, U 13, U 14, U 15, U 16, U 17, U 18, U 19, .pointer (some ⟨D0, 0, none⟩), xv, U 22, yv, .pointer (some ⟨D1, 0, none⟩), U 25, x2v, U 27, y2v, .pointer (some ⟨D2, 0, none⟩), U 30, U 31, U 32, U 33, U 34, U 35, U 36, U 37, U 38, U 39, U 40, U 41, U 42, U 43, U 44, U 45, U 46, U 47, U 48, U 49, U 50, U 51, U 52, U 53, U 54, U 55, U 56, U 57, U 58, U 59, U 60, U 61, U 62, U 63, U 64, U 65, U 66, U 67, U 68, U 69, U 70, U 71, U 72, U 73, U 74, U 75, U 76, U 77, U 78, U 79, U 80, U 81, U 82, U 83, U 84, U 85, U 86, U 87, U 88, U 89, U 90, U 91, U 92, U 93, U 94, U 95, U 96, U 97, U 98, U 99, U 100, U 101, U 102, U 103, U 104, U 105, U 106, U 107, U 108, U 109, U 110, U 111, U 112, U 113, U 114, U 115, U 116, U 117, U 118, U 119, U 120, U 121, U 122, U 123, U 124, U 125, U 126, U 127, U 128, U 129, U 130, U 131, U 132, U 133, U 134, U 135, U 136, U 137, U 138, U 139, U 140, U 141, U 142, U 143, U 144, U 145, U 146, U 147, U 148, U 149, U 150, U 151, U 152, U 153, U 154, U 155, U 156, U 157, U 158, U 159, U 160, U 161, U 162, U 163, U 164, U 165, U 166, U 167, U 168, U 169, U 170, U 171, U 172, U 173, U 174, U 175, U 176, U 177, U 178, U 179, U 180, U 181, U 182, U 183, U 184, U 185, U 186, U 187], []⟩) (by kernel_rfl)
              clear hF
              refine hnext _ _ ?_
              clear hnext
              go_upto_region 38 with fail
              refine wp_region_lit ?_
              refine Og.st_start (n := 188) rfl fun a hF => ?_
              refine Og.st_same (.pointer (some ⟨r, 0, none⟩)) hF rfl rfl (by decide) (by kernel_rfl) ?_
              clear hF a; intro a hF
              refine Og.st_same (y2v) hF rfl rfl (by decide) (by kernel_rfl) ?_
              clear hF a; intro a hF
              refine Og.st_call (f := 36) (args := #[.pointer (some ⟨r, 0, none⟩), y2v]) hF rfl rfl (by decide) ((Og.exec_call rfl bkeep_enter rfl _).trans (by kernel_rfl)) ((bkeep_calls hBk hBw11 p24.ob p24.len (p := 24) (by decide) p24.tag (by omega)).mono ?_)
              rintro e v5 ⟨rfl, ow5, Lf5, Lk5, hBkN, hLN, hCN, hag⟩
              refine ⟨_, rfl, ?_⟩
              clear hF a; intro a hF
              replace hb := hb.trans (hCN.lowB hBw11 h0 rfl (Nat.le_refl _))
              replace h0 : ∀ k, k < B → ow5 k = 0 := fun k hk => (hag k (by omega) (by rw [h0 k hk]; rfl)).trans (h0 k hk)
              replace hBw11 : B ≤ v5.heap.size := Nat.le_trans hBw11 hCN.size
              replace hBk := hBkN
              clear hBkN hCN hag
              refine wpList_nil ?_
              obtain ⟨U, rfl⟩ := Og.Fr.lit_ex hF (fun U => ⟨#[.slice q1 np c1, .slice q2 nf c2, U 2, U 3, .bool false, .pointer (some ⟨r, 0, none⟩), .int .i64 i, U 7, U 8, U 9, U 10, U 11, U 12, U 13, U 14, U 15, U 16, U 17, U 18, U 19, U 20, U 21, U 22, U 23, U 24, U 25, U 26, U 27, U 28, U 29, U 30, U 31, U 32, U 33, U 34, U 35, U 36, U 37, U 38, U 39, U 40, U 41, U 42, U 43, U 44, U 45, U 46, U 47, U 48, U 49, U 50, U 51, U 52, U 53, U 54, U 55, U 56, U 57, U 58, U 59, U 60, U 61, U 62, U 63, U 64, U 65, U 66, U 67, U 68, U 69, U 70, U 71, U 72, U 73, U 74, U 75, U 76, U 77, U 78, U 79, U 80, U 81, U 82, U 83, U 84, U 85, U 86, U 87, U 88, U 89, U 90, U 91, U 92, U 93, U 94, U 95, U 96, U 97, U 98, U 99, U 100, U 101, U 102, U 103, U 104, U 105, U 106, U 107, U 108, U 109, U 110, U 111, U 112, U 113, U 114, U 115, U 116, U 117, U 118, U 119, U 120, U 121, U 122, U 123, U 124, U 125, U 126, U 127, U 128, U 129, U 130, U 131, U 132, U 133, U 134, U 135, U 136, U 137, U 138, U 139, U 140, U 141, U 142, U 143, U 144, U 145, U 146, U 147, U 148, U 149, U 150, U 151, U 152, U 153, U 154, U 155, U 156, U 157, U 158, U 159, U 160, U 161, U 162, U 163, U 164, U 165, U 166, U 167, U 168, U 169, U 170, U 171, U 172, U 173, U 174, U 175, U 176, U 177, U 178, U 179, U 180, U 181, U 182, U 183, U 184, U 185, U 186, U 187], []⟩) (by kernel_rfl)
              exact hK' _ _ (Met.intro (HJ.out _ _ ⟨ow5, Lf5, Lk5, ⟨U, rfl⟩, hBk, by omega, h0, hb, hBw11⟩))
            by_cases he0 : Wi.encErr x = 0
            · obtain ⟨hu, he⟩ := hback0 he0
              rw [he0]
              rw [hu] at hQ1 hqv
              rw [he]
              refine wp_region_lit ?_
              refine Og.st_start (n := 188) rfl fun a hF => ?_
              refine Og.st_same (.int .i64 0) hF rfl rfl (by decide) (by kernel_rfl) ?_
              clear hF a; intro a hF
              refine Og.st_call (f := 17) (args := #[.int .i64 0]) hF rfl rfl (by decide) ((Og.exec_call rfl num_enter rfl _).trans (by kernel_rfl)) (((num_same _ 0).out).mono ?_)
              rintro e w6' ⟨rfl, rfl⟩
              refine ⟨_, rfl, ?_⟩
              clear hF a; intro a hF
              refine Og.st_same (.bool true) hF rfl rfl (by decide) (by kernel_rfl) ?_
              clear hF a; intro a hF
              refine Og.st_same (.bool true) hF rfl rfl (by decide) (by kernel_rfl) ?_
              clear hF a; intro a hF
              refine Og.st_same_g (.int .i64 0) hF (by kernel_rfl) rfl (by decide) (by kernel_rfl) ?_
              clear hF a; intro a hF
              refine Og.st_call_g (f := 17) (args := #[.int .i64 0]) hF (by kernel_rfl) rfl (by decide) ((Og.exec_call rfl num_enter rfl _).trans (by kernel_rfl)) (((num_same _ 0).out).mono ?_)
              rintro e w6' ⟨rfl, rfl⟩
              refine ⟨_, rfl, ?_⟩
              clear hF a; intro a hF
              refine Og.st_same_g (.bool false) hF (by kernel_rfl) rfl (by decide) (by kernel_rfl) ?_
              clear hF a; intro a hF
              refine Og.st_same_g (.bool false) hF (by kernel_rfl) rfl (by decide) (by kernel_rfl) ?_
              clear hF a; intro a hF
              refine Og.st_same_g (.agg (frameC x pv)) hF (by kernel_rfl) rfl (by decide) (Og.exec_load rfl (load_fr hIt)) ?_
              clear hF a; intro a hF
              refine Og.st_same_g (.agg (frameC x qv)) hF (by kernel_rfl) rfl (by decide) (Og.exec_load rfl (load_fr hQ1)) ?_
              clear hF a; intro a hF
              refine Og.st_call_g (f := 34) (args := #[.agg (frameC x pv), .agg (frameC x qv)]) hF (by kernel_rfl) rfl (by decide) ((Og.exec_call rfl sameF_enter rfl _).trans (by kernel_rfl)) (((sameFrame_calls x.kind x.from_ x.to x.seq x.ack hrb hqv.rb).out).mono ?_)
              rintro e w7 ⟨rfl, hb67⟩
              refine ⟨_, rfl, ?_⟩
              clear hF a; intro a hF
              refine Og.st_same_g (.bool false) hF (by kernel_rfl) rfl (by decide) (by kernel_rfl) ?_
              clear hF a; intro a hF
              refine Og.st_same_g (.bool false) hF (by kernel_rfl) rfl (by decide) (by kernel_rfl) ?_
              clear hF a; intro a hF
              refine Og.st_same (.bool false) hF rfl rfl (by decide) (by kernel_rfl) ?_
              clear hF a; intro a hF
              refine wpList_nil ?_
              obtain ⟨U, rfl⟩ := Og.Fr.lit_ex hF (fun U => ⟨#[.slice q1 np c1, .slice q2 nf c2, U 2, U 3, .bool false, .pointer (some ⟨r, 0, none⟩), .int .i64 i, U 7, U 8, U 9, U 10, U 11, U 12, U 13, U 14, U 15, U 16, U 17, U 18, U 19, .pointer (some ⟨D0, 0, none⟩), xv, .int .i64 0, yv, .pointer (some ⟨D1, 0, none⟩), .int .i64 0, U 26, U 27, U 28, U 29, U 30, U 31, U 32, U 33, U 34, U 35, U 36, U 37, U 38, U 39, U 40, U 41, U 42, U 43, U 44, U 45, U 46, U 47, U 48, U 49, U 50, U 51, U 52, U 53, U 54, U 55, U 56, U 57, U 58, U 59, U 60, U 61, U 62, U 63, U 64, U 65, U 66, U 67, U 68, U 69, U 70, U 71, U 72, U 73, U 74, U 75, U 76, U 77, U 78, U 79, U 80, U 81, U 82, U 83, U 84, U 85, U 86, U 87, U 88, U 89, U 90, U 91, U 92, U 93, U 94, U 95, U 96, U 97, U 98, U 99, U 100, U 101, U 102, U 103, U 104, U 105, U 106, U 107, U 108, U 109, U 110, U 111, U 112, U 113, U 114, U 115, U 116, U 117, U 118, U 119, U 120, U 121, U 122, U 123, U 124, U 125, U 126, U 127, U 128, U 129, U 130, U 131, U 132, U 133, U 134, U 135, U 136, U 137, U 138, U 139, U 140, U 141, U 142, U 143, U 144, U 145, U 146, U 147, U 148, U 149, U 150, .bool false, U 152, U 153, U 154, U 155, U 156, U 157, U 158, U 159, U 160, U 161, U 162, U 163, U 164, U 165, U 166, U 167, U 168, U 169, U 170, U 171, U 172, U 173, U 174, U 175, U 176, U 177, U 178, U 179, U 180, U 181, U 182, U 183, U 184, U 185, U 186, U 187], []⟩) (by kernel_rfl)
              rw [he0, he] at key2
              exact key2 U _ hb67
            · have hne : ((Wi.encErr x) == 0) = false := by simpa using he0
              refine wp_region_lit ?_
              refine Og.st_start (n := 188) rfl fun a hF => ?_
              refine Og.st_same (.int .i64 (Wi.encErr x)) hF rfl rfl (by decide) (by kernel_rfl) ?_
              clear hF a; intro a hF
              refine Og.st_call (f := 17) (args := #[.int .i64 (Wi.encErr x)]) hF rfl rfl (by decide) ((Og.exec_call rfl num_enter rfl _).trans (by kernel_rfl)) (((num_same _ (Wi.encErr x)).out).mono ?_)
              rintro e w6' ⟨rfl, rfl⟩
              refine ⟨_, rfl, ?_⟩
              clear hF a; intro a hF
              refine Og.st_same (.bool ((Wi.encErr x) == 0)) hF rfl rfl (by decide) (by kernel_rfl) ?_
              clear hF a; intro a hF
              rw [hne] at hF
              refine Og.st_same (.bool false) hF rfl rfl (by decide) (by kernel_rfl) ?_
              clear hF a; intro a hF
              refine Og.st_pass hF (by kernel_rfl) rfl (by decide) ?_
              clear hF a; intro a hF
              refine Og.st_pass hF (by kernel_rfl) rfl (by decide) ?_
              clear hF a; intro a hF
              refine Og.st_pass hF (by kernel_rfl) rfl (by decide) ?_
              clear hF a; intro a hF
              refine Og.st_pass hF (by kernel_rfl) rfl (by decide) ?_
              clear hF a; intro a hF
              refine Og.st_pass hF (by kernel_rfl) rfl (by decide) ?_
              clear hF a; intro a hF
              refine Og.st_pass hF (by kernel_rfl) rfl (by decide) ?_
              clear hF a; intro a hF
              refine Og.st_pass hF (by kernel_rfl) rfl (by decide) ?_
              clear hF a; intro a hF
              refine Og.st_pass hF (by kernel_rfl) rfl (by decide) ?_
              clear hF a; intro a hF
              refine Og.st_pass hF (by kernel_rfl) rfl (by decide) ?_
              clear hF a; intro a hF
              refine Og.st_same (.bool false) hF rfl rfl (by decide) (by kernel_rfl) ?_
              clear hF a; intro a hF
              refine wpList_nil ?_
              obtain ⟨U, rfl⟩ := Og.Fr.lit_ex hF (fun U => ⟨#[.slice q1 np c1, .slice q2 nf c2, U 2, U 3, .bool false, .pointer (some ⟨r, 0, none⟩), .int .i64 i, U 7, U 8, U 9, U 10, U 11, U 12, U 13, U 14, U 15, U 16, U 17, U 18, U 19, .pointer (some ⟨D0, 0, none⟩), xv, .int .i64 (Wi.encErr x), yv, .pointer (some ⟨D1, 0, none⟩), .int .i64 e1, U 26, U 27, U 28, U 29, U 30, U 31, U 32, U 33, U 34, U 35, U 36, U 37, U 38, U 39, U 40, U 41, U 42, U 43, U 44, U 45, U 46, U 47, U 48, U 49, U 50, U 51, U 52, U 53, U 54, U 55, U 56, U 57, U 58, U 59, U 60, U 61, U 62, U 63, U 64, U 65, U 66, U 67, U 68, U 69, U 70, U 71, U 72, U 73, U 74, U 75, U 76, U 77, U 78, U 79, U 80, U 81, U 82, U 83, U 84, U 85, U 86, U 87, U 88, U 89, U 90, U 91, U 92, U 93, U 94, U 95, U 96, U 97, U 98, U 99, U 100, U 101, U 102, U 103, U 104, U 105, U 106, U 107, U 108, U 109, U 110, U 111, U 112, U 113, U 114, U 115, U 116, U 117, U 118, U 119, U 120, U 121, U 122, U 123, U 124, U 125, U 126, U 127, U 128, U 129, U 130, U 131, U 132, U 133, U 134, U 135, U 136, U 137, U 138, U 139, U 140, U 141, U 142, U 143, U 144, U 145, U 146, U 147, U 148, U 149, U 150, .bool false, U 152, U 153, U 154, U 155, U 156, U 157, U 158, U 159, U 160, U 161, U 162, U 163, U 164, U 165, U 166, U 167, U 168, U 169, U 170, U 171, U 172, U 173, U 174, U 175, U 176, U 177, U 178, U 179, U 180, U 181, U 182, U 183, U 184, U 185, U 186, U 187], []⟩) (by kernel_rfl)
              exact key2 U _ (Below.refl _ _)
      · intro J K' hJ hK'
        have HJ := Lib.hid hJ
        clear hJ
        cases b0
        · go_wp2_with fail
          exact Met.intro (HJ.out _ _ ⟨own, Lf, Lk, exU (fun U => ⟨#[.slice q1 np c1, .slice q2 nf c2, U 2, U 3, .bool false, .pointer (some ⟨r, 0, none⟩), .int .i64 i, U 7, U 8, U 9, U 10, U 11, U 12, U 13, U 14, U 15, U 16, U 17, U 18, U 19, U 20, U 21, U 22, U 23, U 24, U 25, U 26, U 27, U 28, U 29, U 30, U 31, U 32, U 33, U 34, U 35, U 36, U 37, U 38, U 39, U 40, U 41, U 42, U 43, U 44, U 45, U 46, U 47, U 48, U 49, U 50, U 51, U 52, U 53, U 54, U 55, U 56, U 57, U 58, U 59, U 60, U 61, U 62, U 63, U 64, U 65, U 66, U 67, U 68, U 69, U 70, U 71, U 72, U 73, U 74, U 75, U 76, U 77, U 78, U 79, U 80, U 81, U 82, U 83, U 84, U 85, U 86, U 87, U 88, U 89, U 90, U 91, U 92, U 93, U 94, U 95, U 96, U 97, U 98, U 99, U 100, U 101, U 102, U 103, U 104, U 105, U 106, U 107, U 108, U 109, U 110, U 111, U 112, U 113, U 114, U 115, U 116, U 117, U 118, U 119, U 120, U 121, U 122, U 123, U 124, U 125, U 126, U 127, U 128, U 129, U 130, U 131, U 132, U 133, U 134, U 135, U 136, U 137, U 138, U 139, U 140, U 141, U 142, U 143, U 144, U 145, U 146, U 147, U 148, U 149, U 150, U 151, U 152, U 153, U 154, U 155, U 156, U 157, U 158, U 159, U 160, U 161, U 162, U 163, U 164, U 165, U 166, U 167, U 168, U 169, U 170, U 171, U 172, U 173, U 174, U 175, U 176, U 177, U 178, U 179, U 180, U 181, U 182, U 183, U 184, U 185, U 186, U 187], []⟩) rfl, hBk, by omega, h0, hb, hBw⟩)
        · have hlt : i < np := by simpa using hb0.symm
          obtain ⟨p, hIn⟩ : ∃ p, P[i]? = some p := ⟨P[i]'(by omega), List.getElem?_eq_getElem (by omega)⟩
          obtain ⟨g, o, pv, hq, hg, hok, hrb, hrange⟩ := HP.out i p hIn
          have hbW : Below W.heap.size W w1 := by rw [← hB]; exact hb
          replace hrb := hrb.below hbW
          replace hrange := range_below hg hrange hbW
          have hSz := hS.below hbW
          have hone : pv.oneCell' = true := by obtain ⟨pp, pc, e⟩ := hrb.form; rw [e]; rfl
          have hback := Wi.back hok
          have hsm := Wi.out_small hok
          have hok1 := Wi.unpack_ok (Wi.packOut p)
          have hdec := fun (w : World) (v : Value) (hr : RB w v (Wi.packOut p)) (hS : Szs w) => decP_calls hr hS
          unfold DecPost at hdec
          obtain ⟨u, hu⟩ : ∃ u, u = Wi.unpack (Wi.packOut p) := ⟨_, rfl⟩
          rw [← hu] at hback hok1
          simp only [← hu] at hdec
          obtain ⟨u1, a1, e1⟩ := u
          simp only at hback hok1 hdec
          have hback0 : Wi.packErr p = 0 → u1 = p ∧ e1 = 0 := fun h => by have := hback.2 h; simp only [Prod.mk.injEq] at this; exact ⟨this.1, this.2.2⟩
          have hd1 : u1.data.length ≤ 1099511627776 := by have := hback.1; omega
          clear hback hu
          go_upto_region 8 with fail
          rename_i hnext
          refine wp_region_lit ?_
          refine Og.st_start (n := 188) rfl fun a hF => ?_
          refine Og.st_same (.slice q1 np c1) hF rfl rfl (by decide) (by kernel_rfl) ?_
          clear hF a; intro a hF
          refine Og.st_same (.int .i64 i) hF rfl rfl (by decide) (by kernel_rfl) ?_
          clear hF a; intro a hF
          refine Og.st_same (.pointer (some ⟨g, o + i * 43, none⟩)) hF rfl rfl (by decide) (exec_idx rfl (show (Instr.indexAt 60 (.slice q1 np c1) (.int .i64 i)).run Tryd.prog w1 = _ from by rw [hq]; exact idx_pk w1 g o np c1 i hlt)) ?_
          clear hF a; intro a hF
          refine Og.st_same (.agg (pkL p pv).toArray) hF rfl rfl (by decide) (Og.exec_load rfl (load_pk_at hrange hok)) ?_
          clear hF a; intro a hF
          refine Og.st_val (w' := w1.alloc (.cells (pkL (Wi.Pk.zero 0) (.slice none 0 0)).toArray 34)) (.pointer (some ⟨w1.heap.size, 0, none⟩)) hF rfl rfl (by decide) (alloc_pk rfl w1) ?_
          clear hF a; intro a hF
          have hL := heap_new w1 (.cells (pkL (Wi.Pk.zero 0) (.slice none 0 0)).toArray 34) w1.heap.size rfl
          have hba := below_alloc1 w1 (.cells (pkL (Wi.Pk.zero 0) (.slice none 0 0)).toArray 34)
          refine Og.st_skip (w' := (w1.alloc (.cells (pkL (Wi.Pk.zero 0) (.slice none 0 0)).toArray 34)).setCells w1.heap.size 0 (pkL p pv)) hF rfl rfl
            (exec_store (o := 0) (vs := pkL p pv) (cs := pkL (Wi.Pk.zero 0) (.slice none 0 0)) rfl rfl rfl hL (by rw [pkL_length (Wi.Pk.zero_ok 0), pkL_length hok]; decide) (by rw [pkL_length hok]; exact pk_i) (pkL_one p pv hone)) ?_
          clear hF a; intro a hF
          have hIt : PkAt ((w1.alloc (.cells (pkL (Wi.Pk.zero 0) (.slice none 0 0)).toArray 34)).setCells w1.heap.size 0 (pkL p pv)) w1.heap.size p pv := PkAt.store hL 0 _ p pv (set_all hok (Wi.Pk.zero_ok 0))
          have hb12 : Below w1.heap.size w1 ((w1.alloc (.cells (pkL (Wi.Pk.zero 0) (.slice none 0 0)).toArray 34)).setCells w1.heap.size 0 (pkL p pv)) := hba.grown (setCells_grown _ w1.heap.size 0 _) (by simp) (fun k hk => by injection hk with hk; omega)
          clear hL hba
          generalize (w1.alloc (.cells (pkL (Wi.Pk.zero 0) (.slice none 0 0)).toArray 34)).setCells w1.heap.size 0 (pkL p pv) = w2 at *
          obtain ⟨D0, hD0⟩ : ∃ D, D = w1.heap.size := ⟨_, rfl⟩
          rw [← hD0] at hIt hF
          replace hrb := hrb.below hb12
          replace hSz := hSz.below hb12
          replace hBk := hBk.chg hb12
          replace hb := hb.trans (hb12.mono hBw)
          replace hBw := Nat.le_trans hBw hb12.size
          clear hD0 hrange hbW
          refine wpList_nil ?_
          obtain ⟨U, rfl⟩ := Og.Fr.lit_ex hF (fun U => ⟨#[.slice q1 np c1, .slice q2 nf c2, U 2, U 3, .bool false, .pointer (some ⟨r, 0, none⟩), .int .i64 i, .pointer (some ⟨D0, 0, none⟩), U 8, U 9, U 10, U 11, U 12, U 13, U 14, U 15, U 16, U 17, U 18, U 19, U 20, U 21, U 22, U 23, U 24, U 25, U 26, U 27, U 28, U 29, U 30, U 31, U 32, U 33, U 34, U 35, U 36, U 37, U 38, U 39, U 40, U 41, U 42, U 43, U 44, U 45, U 46, U 47, U 48, U 49, U 50, U 51, U 52, U 53, U 54, U 55, U 56, U 57, U 58, U 59, U 60, U 61, U 62, U 63, U 64, U 65, U 66, U 67, U 68, U 69, U 70, U 71, U 72, U 73, U 74, U 75, U 76, U 77, U 78, U 79, U 80, U 81, U 82, U 83, U 84, U 85, U 86, U 87, U 88, U 89, U 90, U 91, U 92, U 93, U 94, U 95, U 96, U 97, U 98, U 99, U 100, U 101, U 102, U 103, U 104, U 105, U 106, U 107, U 108, U 109, U 110, U 111, U 112, U 113, U 114, U 115, U 116, U 117, U 118, U 119, U 120, U 121, U 122, U 123, U 124, U 125, U 126, U 127, U 128, U 129, U 130, U 131, U 132, U 133, U 134, U 135, U 136, U 137, U 138, U 139, U 140, U 141, U 142, U 143, U 144, U 145, U 146, U 147, U 148, U 149, U 150, U 151, U 152, U 153, U 154, U 155, U 156, U 157, U 158, U 159, U 160, U 161, U 162, U 163, U 164, U 165, U 166, U 167, U 168, U 169, U 170, U 171, U 172, U 173, U 174, U 175, U 176, U 177, U 178, U 179, U 180, U 181, U 182, U 183, U 184, U 185, U 186, U 187], []⟩) (by kernel_rfl)
          clear hF
          refine hnext _ _ ?_
          clear hnext
          go_upto_region 9 with fail
          rename_i hnext
          refine wp_region_lit ?_
          refine Og.st_start (n := 188) rfl fun a hF => ?_
          refine Og.st_same (.agg (pkL p pv).toArray) hF rfl rfl (by decide) (Og.exec_load rfl (load_pk hIt hok)) ?_
          clear hF a; intro a hF
          refine Og.st_call (f := 28) (args := #[.agg (pkL p pv).toArray]) hF rfl rfl (by decide) ((Og.exec_call rfl ownP_enter rfl _).trans (by kernel_rfl)) ((ownP_calls hok hrb).mono ?_)
          rintro e w3 ⟨ov, rfl, hov, hbw2w3⟩
          refine ⟨_, rfl, ?_⟩
          clear hF a; intro a hF
          replace hIt := hIt.below hbw2w3
          replace hrb := hrb.below hbw2w3
          replace hSz := hSz.below hbw2w3
          replace hBk := hBk.chg hbw2w3
          replace hb := hb.trans (hbw2w3.mono hBw)
          replace hBw := Nat.le_trans hBw hbw2w3.size
          refine Og.st_call (f := 20) (args := #[.agg (pkL p ov).toArray]) hF rfl rfl (by decide) ((Og.exec_call rfl enc_enter rfl _).trans (by kernel_rfl)) ((encP_calls hok hov hSz).mono ?_)
          rintro e w4 ⟨xv, rfl, hxv, hbw3w4⟩
          refine ⟨_, rfl, ?_⟩
          clear hF a; intro a hF
          replace hIt := hIt.below hbw3w4
          replace hrb := hrb.below hbw3w4
          replace hSz := hSz.below hbw3w4
          have hxvk := fun k e => hxv.lt k e
          refine Og.st_same (.tuple #[xv, .int .i64 (Wi.packErr p)]) hF rfl rfl (by decide) (by kernel_rfl) ?_
          clear hF a; intro a hF
          refine Og.st_same (xv) hF rfl rfl (by decide) (by kernel_rfl) ?_
          clear hF a; intro a hF
          refine Og.st_same (.int .i64 (Wi.packErr p)) hF rfl rfl (by decide) (by kernel_rfl) ?_
          clear hF a; intro a hF
          refine Og.st_same (xv) hF rfl rfl (by decide) (by kernel_rfl) ?_
          clear hF a; intro a hF
          refine Og.st_same (.int .i64 (Wi.packErr p)) hF rfl rfl (by decide) (by kernel_rfl) ?_
          clear hF a; intro a hF
          refine wpList_nil ?_
          obtain ⟨U, rfl⟩ := Og.Fr.lit_ex hF (fun U => ⟨#[.slice q1 np c1, .slice q2 nf c2, U 2, U 3, .bool false, .pointer (some ⟨r, 0, none⟩), .int .i64 i, .pointer (some ⟨D0, 0, none⟩), xv, .int .i64 (Wi.packErr p), U 10, U 11, U 12, U 13, U 14, U 15, U 16, U 17, U 18, U 19, U 20, U 21, U 22, U 23, U 24, U 25, U 26, U 27, U 28, U 29, U 30, U 31, U 32, U 33, U 34, U 35, U 36, U 37, U 38, U 39, U 40, U 41, U 42, U 43, U 44, U 45, U 46, U 47, U 48, U 49, U 50, U 51, U 52, U 53, U 54, U 55, U 56, U 57, U 58, U 59, U 60, U 61, U 62, U 63, U 64, U 65, U 66, U 67, U 68, U 69, U 70, U 71, U 72, U 73, U 74, U 75, U 76, U 77, U 78, U 79, U 80, U 81, U 82, U 83, U 84, U 85, U 86, U 87, U 88, U 89, U 90, U 91, U 92, U 93, U 94, U 95, U 96, U 97, U 98, U 99, U 100, U 101, U 102, U 103, U 104, U 105, U 106, U 107, U 108, U 109, U 110, U 111, U 112, U 113, U 114, U 115, U 116, U 117, U 118, U 119, U 120, U 121, U 122, U 123, U 124, U 125, U 126, U 127, U 128, U 129, U 130, U 131, U 132, U 133, U 134, U 135, U 136, U 137, U 138, U 139, U 140, U 141, U 142, U 143, U 144, U 145, U 146, U 147, U 148, U 149, U 150, U 151, U 152, U 153, U 154, U 155, U 156, U 157, U 158, U 159, U 160, U 161, U 162, U 163, U 164, U 165, U 166, U 167, U 168, U 169, U 170, U 171, U 172, U 173, U 174, U 175, U 176, U 177, U 178, U 179, U 180, U 181, U 182, U 183, U 184, U 185, U 186, U 187], []⟩) (by kernel_rfl)
          clear hF
          refine hnext _ _ ?_
          clear hnext
          go_upto_region 10 with fail
          rename_i hnext
          refine wp_region_lit ?_
          refine Og.st_start (n := 188) rfl fun a hF => ?_
          refine Og.st_same (xv) hF rfl rfl (by decide) (by kernel_rfl) ?_
          clear hF a; intro a hF
          refine Og.st_call (f := 30) (args := #[xv]) hF rfl rfl (by decide) ((Og.exec_call rfl copied_enter rfl _).trans (by kernel_rfl)) ((copied_calls hxv.rb).mono ?_)
          rintro e w5 ⟨yv, rfl, hyv, hbw4w5⟩
          refine ⟨_, rfl, ?_⟩
          clear hF a; intro a hF
          replace hIt := hIt.below hbw4w5
          replace hrb := hrb.below hbw4w5
          replace hSz := hSz.below hbw4w5
          replace hxv := hxv.below hbw4w5
          have hyvk := fun k e => hyv.lt k e
          refine Og.st_same (yv) hF rfl rfl (by decide) (by kernel_rfl) ?_
          clear hF a; intro a hF
          refine wpList_nil ?_
          obtain ⟨U, rfl⟩ := Og.Fr.lit_ex hF (fun U => ⟨#[.slice q1 np c1, .slice q2 nf c2, U 2, U 3, .bool false, .pointer (some ⟨r, 0, none⟩), .int .i64 i, .pointer (some ⟨D0, 0, none⟩), xv, .int .i64 (Wi.packErr p), yv, U 11, U 12, U 13, U 14, U 15, U 16, U 17, U 18, U 19, U 20, U 21, U 22, U 23, U 24, U 25, U 26, U 27, U 28, U 29, U 30, U 31, U 32, U 33, U 34, U 35, U 36, U 37, U 38, U 39, U 40, U 41, U 42, U 43, U 44, U 45, U 46, U 47, U 48, U 49, U 50, U 51, U 52, U 53, U 54, U 55, U 56, U 57, U 58, U 59, U 60, U 61, U 62, U 63, U 64, U 65, U 66, U 67, U 68, U 69, U 70, U 71, U 72, U 73, U 74, U 75, U 76, U 77, U 78, U 79, U 80, U 81, U 82, U 83, U 84, U 85, U 86, U 87, U 88, U 89, U 90, U 91, U 92, U 93, U 94, U 95, U 96, U 97, U 98, U 99, U 100, U 101, U 102, U 103, U 104, U 105, U 106, U 107, U 108, U 109, U 110, U 111, U 112, U 113, U 114, U 115, U 116, U 117, U 118, U 119, U 120, U 121, U 122, U 123, U 124, U 125, U 126, U 127, U 128, U 129, U 130, U 131, U 132, U 133, U 134, U 135, U 136, U 137, U 138, U 139, U 140, U 141, U 142, U 143, U 144, U 145, U 146, U 147, U 148, U 149, U 150, U 151, U 152, U 153, U 154, U 155, U 156, U 157, U 158, U 159, U 160, U 161, U 162, U 163, U 164, U 165, U 166, U 167, U 168, U 169, U 170, U 171, U 172, U 173, U 174, U 175, U 176, U 177, U 178, U 179, U 180, U 181, U 182, U 183, U 184, U 185, U 186, U 187], []⟩) (by kernel_rfl)
          clear hF
          refine hnext _ _ ?_
          clear hnext
          go_upto_region 11 with fail
          rename_i hnext
          refine wp_region_lit ?_
          refine Og.st_start (n := 188) rfl fun a hF => ?_
          refine Og.st_same (yv) hF rfl rfl (by decide) (by kernel_rfl) ?_
          clear hF a; intro a hF
          refine Og.st_call (f := 26) (args := #[yv]) hF rfl rfl (by decide) ((Og.exec_call rfl decP_enter' rfl _).trans (by kernel_rfl)) ((hdec _ _ hyv.rb hSz).mono ?_)
          rintro e w5a ⟨qv, rfl, hqv, hbw5w5a⟩
          refine ⟨_, rfl, ?_⟩
          clear hF a; intro a hF
          replace hIt := hIt.below hbw5w5a
          replace hrb := hrb.below hbw5w5a
          replace hSz := hSz.below hbw5w5a
          replace hxv := hxv.below hbw5w5a
          replace hyv := hyv.below hbw5w5a
          have hqvk := fun k e => hqv.lt k e
          have hqv1 : qv.oneCell' = true := by obtain ⟨pp, pc, e⟩ := hqv.rb.form; rw [e]; rfl
          refine Og.st_same (.tuple #[.agg (pkL u1 qv).toArray, .int .i64 (a1 : Nat), .int .i64 e1]) hF rfl rfl (by decide) (by kernel_rfl) ?_
          clear hF a; intro a hF
          refine Og.st_same (.agg (pkL u1 qv).toArray) hF rfl rfl (by decide) (by kernel_rfl) ?_
          clear hF a; intro a hF
          refine Og.st_same (.int .i64 (a1 : Nat)) hF rfl rfl (by decide) (by kernel_rfl) ?_
          clear hF a; intro a hF
          refine Og.st_same (.int .i64 e1) hF rfl rfl (by decide) (by kernel_rfl) ?_
          clear hF a; intro a hF
          refine Og.st_val (w' := w5a.alloc (.cells (pkL (Wi.Pk.zero 0) (.slice none 0 0)).toArray 34)) (.pointer (some ⟨w5a.heap.size, 0, none⟩)) hF rfl rfl (by decide) (alloc_pk rfl w5a) ?_
          clear hF a; intro a hF
          have hL := heap_new w5a (.cells (pkL (Wi.Pk.zero 0) (.slice none 0 0)).toArray 34) w5a.heap.size rfl
          have hba := below_alloc1 w5a (.cells (pkL (Wi.Pk.zero 0) (.slice none 0 0)).toArray 34)
          refine Og.st_skip (w' := (w5a.alloc (.cells (pkL (Wi.Pk.zero 0) (.slice none 0 0)).toArray 34)).setCells w5a.heap.size 0 (pkL u1 qv)) hF rfl rfl
            (exec_store (o := 0) (vs := pkL u1 qv) (cs := pkL (Wi.Pk.zero 0) (.slice none 0 0)) rfl rfl rfl hL (by rw [pkL_length (Wi.Pk.zero_ok 0), pkL_length hok1]; decide) (by rw [pkL_length hok1]; exact pk_i) (pkL_one u1 qv hqv1)) ?_
          clear hF a; intro a hF
          have hQ1 : PkAt ((w5a.alloc (.cells (pkL (Wi.Pk.zero 0) (.slice none 0 0)).toArray 34)).setCells w5a.heap.size 0 (pkL u1 qv)) w5a.heap.size u1 qv := PkAt.store hL 0 _ u1 qv (set_all hok1 (Wi.Pk.zero_ok 0))
          have hbw5aw6 : Below w5a.heap.size w5a ((w5a.alloc (.cells (pkL (Wi.Pk.zero 0) (.slice none 0 0)).toArray 34)).setCells w5a.heap.size 0 (pkL u1 qv)) := hba.grown (setCells_grown _ w5a.heap.size 0 _) (by simp) (fun k hk => by injection hk with hk; omega)
          clear hL hba
          generalize (w5a.alloc (.cells (pkL (Wi.Pk.zero 0) (.slice none 0 0)).toArray 34)).setCells w5a.heap.size 0 (pkL u1 qv) = w6 at *
          obtain ⟨D1, hD1⟩ : ∃ D, D = w5a.heap.size := ⟨_, rfl⟩
          rw [← hD1] at hQ1 hF
          replace hIt := hIt.below hbw5aw6
          replace hrb := hrb.below hbw5aw6
          replace hSz := hSz.below hbw5aw6
          replace hxv := hxv.below hbw5aw6
          replace hyv := hyv.below hbw5aw6
          replace hqv := hqv.below hbw5aw6
          have hD1lt := hQ1.lt
          refine Og.st_same (.int .i64 (a1 : Nat)) hF rfl rfl (by decide) (by kernel_rfl) ?_
          clear hF a; intro a hF
          refine Og.st_same (.int .i64 e1) hF rfl rfl (by decide) (by kernel_rfl) ?_
          clear hF a; intro a hF
          refine wpList_nil ?_
          obtain ⟨U, rfl⟩ := Og.Fr.lit_ex hF (fun U => ⟨#[.slice q1 np c1, .slice q2 nf c2, U 2, U 3, .bool false, .pointer (some ⟨r, 0, none⟩), .int .i64 i, .pointer (some ⟨D0, 0, none⟩), xv, .int .i64 (Wi.packErr p), yv, .pointer (some ⟨D1, 0, none⟩), U 12, .int .i64 e1, U 14, U 15, U 16, U 17, U 18, U 19, U 20, U 21, U 22, U 23, U 24, U 25, U 26, U 27, U 28, U 29, U 30, U 31, U 32, U 33, U 34, U 35, U 36, U 37, U 38, U 39, U 40, U 41, U 42, U 43, U 44, U 45, U 46, U 47, U 48, U 49, U 50, U 51, U 52, U 53, U 54, U 55, U 56, U 57, U 58, U 59, U 60, U 61, U 62, U 63, U 64, U 65, U 66, U 67, U 68, U 69, U 70, U 71, U 72, U 73, U 74, U 75, U 76, U 77, U 78, U 79, U 80, U 81, U 82, U 83, U 84, U 85, U 86, U 87, U 88, U 89, U 90, U 91, U 92, U 93, U 94, U 95, U 96, U 97, U 98, U 99, U 100, U 101, U 102, U 103, U 104, U 105, U 106, U 107, U 108, U 109, U 110, U 111, U 112, U 113, U 114, U 115, U 116, U 117, U 118, U 119, U 120, U 121, U 122, U 123, U 124, U 125, U 126, U 127, U 128, U 129, U 130, U 131, U 132, U 133, U 134, U 135, U 136, U 137, U 138, U 139, U 140, U 141, U 142, U 143, U 144, U 145, U 146, U 147, U 148, U 149, U 150, U 151, U 152, U 153, U 154, U 155, U 156, U 157, U 158, U 159, U 160, U 161, U 162, U 163, U 164, U 165, U 166, U 167, U 168, U 169, U 170, U 171, U 172, U 173, U 174, U 175, U 176, U 177, U 178, U 179, U 180, U 181, U 182, U 183, U 184, U 185, U 186, U 187], []⟩) (by kernel_rfl)
          clear hF
          refine hnext _ _ ?_
          clear hnext
          go_upto_region 12 with fail
          rename_i K12 hnext
          have key2 : ∀ (U : Nat → Value) (w7 : World), Below w6.heap.size w6 w7 → K12 ⟨#[.slice q1 np c1, .slice q2 nf c2, U 2, U 3, .bool false, .pointer (some ⟨r, 0, none⟩), .int .i64 i, .pointer (some ⟨D0, 0, none⟩), xv, .int .i64 (Wi.packErr p), yv, .pointer (some ⟨D1, 0, none⟩), U 12, .int .i64 e1, U 14, U 15, U 16, U 17, U 18, U 19, U 20, U 21, U 22, U 23, U 24, U 25, U 26, U 27, U 28, U 29, U 30, U 31, U 32, U 33, U 34, U 35, U 36, U 37, U 38, U 39, U 40, U 41, U 42, U 43, U 44, U 45, U 46, U 47, U 48, U 49, U 50, U 51, U 52, U 53, U 54, U 55, U 56, U 57, U 58, U 59, U 60, U 61, U 62, U 63, U 64, U 65, U 66, U 67, U 68, U 69, U 70, U 71, U 72, U 73, U 74, U 75, U 76, U 77, U 78, U 79, U 80, U 81, .bool false, U 83, U 84, U 85, U 86, U 87, U 88, U 89, U 90, U 91, U 92, U 93, U 94, U 95, U 96, U 97, U 98, U 99, U 100, U 101, U 102, U 103, U 104, U 105, U 106, U 107, U 108, U 109, U 110, U 111, U 112, U 113, U 114, U 115, U 116, U 117, U 118, U 119, U 120, U 121, U 122, U 123, U 124, U 125, U 126, U 127, U 128, U 129, U 130, U 131, U 132, U 133, U 134, U 135, U 136, U 137, U 138, U 139, U 140, U 141, U 142, U 143, U 144, U 145, U 146, U 147, U 148, U 149, U 150, U 151, U 152, U 153, U 154, U 155, U 156, U 157, U 158, U 159, U 160, U 161, U 162, U 163, U 164, U 165, U 166, U 167, U 168, U 169, U 170, U 171, U 172, U 173, U 174, U 175, U 176, U 177, U 178, U 179, U 180, U 181, U 182, U 183, U 184, U 185, U 186, U 187], []⟩ w7 := by
            intro U w7 hb67
            refine hnext _ _ ?_
            clear hnext
            replace hIt := hIt.below hb67
            replace hrb := hrb.below hb67
            replace hSz := hSz.below hb67
            replace hQ1 := hQ1.below hb67
            replace hxv := hxv.below hb67
            replace hyv := hyv.below hb67
            replace hqv := hqv.below hb67
            go_upto_region 14 with fail
            rename_i hnext
            refine wp_region_lit ?_
            refine Og.st_start (n := 188) rfl fun a hF => ?_
            refine Og.st_same (.agg (pkL p pv).toArray) hF rfl rfl (by decide) (Og.exec_load rfl (load_pk hIt hok)) ?_
            clear hF a; intro a hF
            refine Og.st_call (f := 28) (args := #[.agg (pkL p pv).toArray]) hF rfl rfl (by decide) ((Og.exec_call rfl ownP_enter rfl _).trans (by kernel_rfl)) ((ownP_calls hok hrb).mono ?_)
            rintro e w8 ⟨ov2, rfl, hov2, hbw7w8⟩
            refine ⟨_, rfl, ?_⟩
            clear hF a; intro a hF
            replace hIt := hIt.below hbw7w8
            replace hrb := hrb.below hbw7w8
            replace hSz := hSz.below hbw7w8
            replace hQ1 := hQ1.below hbw7w8
            replace hxv := hxv.below hbw7w8
            replace hyv := hyv.below hbw7w8
            replace hqv := hqv.below hbw7w8
            refine Og.st_call (f := 20) (args := #[.agg (pkL p ov2).toArray]) hF rfl rfl (by decide) ((Og.exec_call rfl enc_enter rfl _).trans (by kernel_rfl)) ((encP_calls hok hov2 hSz).mono ?_)
            rintro e w9 ⟨x2v, rfl, hx2v, hbw8w9⟩
            refine ⟨_, rfl, ?_⟩
            clear hF a; intro a hF
            replace hIt := hIt.below hbw8w9
            replace hrb := hrb.below hbw8w9
            replace hSz := hSz.below hbw8w9
            replace hQ1 := hQ1.below hbw8w9
            replace hxv := hxv.below hbw8w9
            replace hyv := hyv.below hbw8w9
            replace hqv := hqv.below hbw8w9
            have hx2vk := fun k e => hx2v.lt k e
            refine Og.st_same (.tuple #[x2v, .int .i64 (Wi.packErr p)]) hF rfl rfl (by decide) (by kernel_rfl) ?_
            clear hF a; intro a hF
            refine Og.st_same (x2v) hF rfl rfl (by decide) (by kernel_rfl) ?_
            clear hF a; intro a hF
            refine Og.st_same (.int .i64 (Wi.packErr p)) hF rfl rfl (by decide) (by kernel_rfl) ?_
            clear hF a; intro a hF
            refine Og.st_same (x2v) hF rfl rfl (by decide) (by kernel_rfl) ?_
            clear hF a; intro a hF
            refine Og.st_same (.int .i64 (Wi.packErr p)) hF rfl rfl (by decide) (by kernel_rfl) ?_
            clear hF a; intro a hF
            refine wpList_nil ?_
            obtain ⟨U, rfl⟩ := Og.Fr.lit_ex hF (fun U => ⟨#[.slice q1 np c1, .slice q2 nf c2, U 2, U 3, .bool false, .pointer (some ⟨r, 0, none⟩), .int .i64 i, .pointer (some ⟨D0, 0, none⟩), xv, U 9, yv, .pointer (some ⟨D1, 0, none⟩), U 12, U 13, x2v, U 15, U 16, U 17, U 18, U 19, U 20, U 21, U 22, U 23, U 24, U 25, U 26, U 27, U 28, U 29, U 30, U 31, U 32, U 33, U 34, U 35, U 36, U 37, U 38, U 39, U 40, U 41, U 42, U 43, U 44, U 45, U 46, U 47, U 48, U 49, U 50, U 51, U 52, U 53, U 54, U 55, U 56, U 57, U 58, U 59, U 60, U 61, U 62, U 63, U 64, U 65, U 66, U 67, U 68, U 69, U 70, U 71, U 72, U 73, U 74, U 75, U 76, U 77, U 78, U 79, U 80, U 81, U 82, U 83, U 84, U 85, U 86, U 87, U 88, U 89, U 90, U 91, U 92, U 93, U 94, U 95, U 96, U 97, U 98, U 99, U 100, U 101, U 102, U 103, U 104, U 105, U 106, U 107, U 108, U 109, U 110, U 111, U 112, U 113, U 114, U 115, U 116, U 117, U 118, U 119, U 120, U 121, U 122, U 123, U 124, U 125, U 126, U 127, U 128, U 129, U 130, U 131, U 132, U 133, U 134, U 135, U 136, U 137, U 138, U 139, U 140, U 141, U 142, U 143, U 144, U 145, U 146, U 147, U 148, U 149, U 150, U 151, U 152, U 153, U 154, U 155, U 156, U 157, U 158, U 159, U 160, U 161, U 162, U 163, U 164, U 165, U 166, U 167, U 168, U 169, U 170, U 171, U 172, U 173, U 174, U 175, U 176, U 177, U 178, U 179, U 180, U 181, U 182, U 183, U 184, U 185, U 186, U 187], []⟩) (by kernel_rfl)
            clear hF
            refine hnext _ _ ?_
            clear hnext
            go_upto_region 15 with fail
            rename_i hnext
            refine wp_region_lit ?_
            refine Og.st_start (n := 188) rfl fun a hF => ?_
            refine Og.st_same (xv) hF rfl rfl (by decide) (by kernel_rfl) ?_
            clear hF a; intro a hF
            refine Og.st_call (f := 30) (args := #[xv]) hF rfl rfl (by decide) ((Og.exec_call rfl copied_enter rfl _).trans (by kernel_rfl)) ((copied_calls hxv.rb).mono ?_)
            rintro e w10 ⟨y2v, rfl, hy2v, hbw9w10⟩
            refine ⟨_, rfl, ?_⟩
            clear hF a; intro a hF
            replace hIt := hIt.below hbw9w10
            replace hrb := hrb.below hbw9w10
            replace hSz := hSz.below hbw9w10
            replace hQ1 := hQ1.below hbw9w10
            replace hxv := hxv.below hbw9w10
            replace hyv := hyv.below hbw9w10
            replace hqv := hqv.below hbw9w10
            replace hx2v := hx2v.below hbw9w10
            have hy2vk := fun k e => hy2v.lt k e
            refine Og.st_same (y2v) hF rfl rfl (by decide) (by kernel_rfl) ?_
            clear hF a; intro a hF
            refine wpList_nil ?_
            obtain ⟨U, rfl⟩ := Og.Fr.lit_ex hF (fun U => ⟨#[.slice q1 np c1, .slice q2 nf c2, U 2, U 3, .bool false, .pointer (some ⟨r, 0, none⟩), .int .i64 i, .pointer (some ⟨D0, 0, none⟩), xv, U 9, yv, .pointer (some ⟨D1, 0, none⟩), U 12, U 13, x2v, U 15, y2v, U 17, U 18, U 19, U 20, U 21, U 22, U 23, U 24, U 25, U 26, U 27, U 28, U 29, U 30, U 31, U 32, U 33, U 34, U 35, U 36, U 37, U 38, U 39, U 40, U 41, U 42, U 43, U 44, U 45, U 46, U 47, U 48, U 49, U 50, U 51, U 52, U 53, U 54, U 55, U 56, U 57, U 58, U 59, U 60, U 61, U 62, U 63, U 64, U 65, U 66, U 67, U 68, U 69, U 70, U 71, U 72, U 73, U 74, U 75, U 76, U 77, U 78, U 79, U 80, U 81, U 82, U 83, U 84, U 85, U 86, U 87, U 88, U 89, U 90, U 91, U 92, U 93, U 94, U 95, U 96, U 97, U 98, U 99, U 100, U 101, U 102, U 103, U 104, U 105, U 106, U 107, U 108, U 109, U 110, U 111, U 112, U 113, U 114, U 115, U 116, U 117, U 118, U 119, U 120, U 121, U 122, U 123, U 124, U 125, U 126, U 127, U 128, U 129, U 130, U 131, U 132, U 133, U 134, U 135, U 136, U 137, U 138, U 139, U 140, U 141, U 142, U 143, U 144, U 145, U 146, U 147, U 148, U 149, U 150, U 151, U 152, U 153, U 154, U 155, U 156, U 157, U 158, U 159, U 160, U 161, U 162, U 163, U 164, U 165, U 166, U 167, U 168, U 169, U 170, U 171, U 172, U 173, U 174, U 175, U 176, U 177, U 178, U 179, U 180, U 181, U 182, U 183, U 184, U 185, U 186, U 187], []⟩) (by kernel_rfl)
            clear hF
            refine hnext _ _ ?_
            clear hnext
            go_upto_region 16 with fail
            rename_i hnext
            refine wp_region_lit ?_
            refine Og.st_start (n := 188) rfl fun a hF => ?_
            refine Og.st_same (y2v) hF rfl rfl (by decide) (by kernel_rfl) ?_
            clear hF a; intro a hF
            refine Og.st_call (f := 26) (args := #[y2v]) hF rfl rfl (by decide) ((Og.exec_call rfl decP_enter' rfl _).trans (by kernel_rfl)) ((hdec _ _ hy2v.rb hSz).mono ?_)
            rintro e w10a ⟨q2v, rfl, hq2v, hbw10w10a⟩
            refine ⟨_, rfl, ?_⟩
            clear hF a; intro a hF
            replace hIt := hIt.below hbw10w10a
            replace hrb := hrb.below hbw10w10a
            replace hSz := hSz.below hbw10w10a
            replace hQ1 := hQ1.below hbw10w10a
            replace hxv := hxv.below hbw10w10a
            replace hyv := hyv.below hbw10w10a
            replace hqv := hqv.below hbw10w10a
            replace hx2v := hx2v.below hbw10w10a
            replace hy2v := hy2v.below hbw10w10a
            have hq2vk := fun k e => hq2v.lt k e
            have hq2v1 : q2v.oneCell' = true := by obtain ⟨pp, pc, e⟩ := hq2v.rb.form; rw [e]; rfl
            refine Og.st_same (.tuple #[.agg (pkL u1 q2v).toArray, .int .i64 (a1 : Nat), .int .i64 e1]) hF rfl rfl (by decide) (by kernel_rfl) ?_
            clear hF a; intro a hF
            refine Og.st_same (.agg (pkL u1 q2v).toArray) hF rfl rfl (by decide) (by kernel_rfl) ?_
            clear hF a; intro a hF
            refine Og.st_same (.int .i64 (a1 : Nat)) hF rfl rfl (by decide) (by kernel_rfl) ?_
            clear hF a; intro a hF
            refine Og.st_same (.int .i64 e1) hF rfl rfl (by decide) (by kernel_rfl) ?_
            clear hF a; intro a hF
            refine Og.st_val (w' := w10a.alloc (.cells (pkL (Wi.Pk.zero 0) (.slice none 0 0)).toArray 34)) (.pointer (some ⟨w10a.heap.size, 0, none⟩)) hF rfl rfl (by decide) (alloc_pk rfl w10a) ?_
            clear hF a; intro a hF
            have hL := heap_new w10a (.cells (pkL (Wi.Pk.zero 0) (.slice none 0 0)).toArray 34) w10a.heap.size rfl
            have hba := below_alloc1 w10a (.cells (pkL (Wi.Pk.zero 0) (.slice none 0 0)).toArray 34)
            refine Og.st_skip (w' := (w10a.alloc (.cells (pkL (Wi.Pk.zero 0) (.slice none 0 0)).toArray 34)).setCells w10a.heap.size 0 (pkL u1 q2v)) hF rfl rfl
              (exec_store (o := 0) (vs := pkL u1 q2v) (cs := pkL (Wi.Pk.zero 0) (.slice none 0 0)) rfl rfl rfl hL (by rw [pkL_length (Wi.Pk.zero_ok 0), pkL_length hok1]; decide) (by rw [pkL_length hok1]; exact pk_i) (pkL_one u1 q2v hq2v1)) ?_
            clear hF a; intro a hF
            have hQ2 : PkAt ((w10a.alloc (.cells (pkL (Wi.Pk.zero 0) (.slice none 0 0)).toArray 34)).setCells w10a.heap.size 0 (pkL u1 q2v)) w10a.heap.size u1 q2v := PkAt.store hL 0 _ u1 q2v (set_all hok1 (Wi.Pk.zero_ok 0))
            have hbw10aw11 : Below w10a.heap.size w10a ((w10a.alloc (.cells (pkL (Wi.Pk.zero 0) (.slice none 0 0)).toArray 34)).setCells w10a.heap.size 0 (pkL u1 q2v)) := hba.grown (setCells_grown _ w10a.heap.size 0 _) (by simp) (fun k hk => by injection hk with hk; omega)
            clear hL hba
            generalize (w10a.alloc (.cells (pkL (Wi.Pk.zero 0) (.slice none 0 0)).toArray 34)).setCells w10a.heap.size 0 (pkL u1 q2v) = w11 at *
            obtain ⟨D2, hD2⟩ : ∃ D, D = w10a.heap.size := ⟨_, rfl⟩
            rw [← hD2] at hQ2 hF
            replace hIt := hIt.below hbw10aw11
            replace hrb := hrb.below hbw10aw11
            replace hSz := hSz.below hbw10aw11
            replace hQ1 := hQ1.below hbw10aw11
            replace hxv := hxv.below hbw10aw11
            replace hyv := hyv.below hbw10aw11
            replace hqv := hqv.below hbw10aw11
            replace hx2v := hx2v.below hbw10aw11
            replace hy2v := hy2v.below hbw10aw11
            replace hq2v := hq2v.below hbw10aw11
            have hD2lt := hQ2.lt
            refine Og.st_same (.int .i64 (a1 : Nat)) hF rfl rfl (by decide) (by kernel_rfl) ?_
            clear hF a; intro a hF
            refine Og.st_same (.int .i64 e1) hF rfl rfl (by decide) (by kernel_rfl) ?_
            clear hF a; intro a hF
            refine wpList_nil ?_
            obtain ⟨U, rfl⟩ := Og.Fr.lit_ex hF (fun U => ⟨#[.slice q1 np c1, .slice q2 nf c2, U 2, U 3, .bool false, .pointer (some ⟨r, 0, none⟩), .int .i64 i, .pointer (some ⟨D0, 0, none⟩), xv, U 9, yv, .pointer (some ⟨D1, 0, none⟩), U 12, U 13, x2v, U 15, y2v, .pointer (some ⟨D2, 0, none⟩), U 18, U 19, U 20, U 21, U 22, U 23, U 24, U 25, U 26, U 27, U 28, U 29, U 30, U 31, U 32, U 33, U 34, U 35, U 36, U 37, U 38, U 39, U 40, U 41, U 42, U 43, U 44, U 45, U 46, U 47, U 48, U 49, U 50, U 51, U 52, U 53, U 54, U 55, U 56, U 57, U 58, U 59, U 60, U 61, U 62, U 63, U 64, U 65, U 66, U 67, U 68, U 69, U 70, U 71, U 72, U 73, U 74, U 75, U 76, U 77, U 78, U 79, U 80, U 81, U 82, U 83, U 84, U 85, U 86, U 87, U 88, U 89, U 90, U 91, U 92, U 93, U 94, U 95, U 96, U 97, U 98, U 99, U 100, U 101, U 102, U 103, U 104, U 105, U 106, U 107, U 108, U 109, U 110, U 111, U 112, U 113, U 114, U 115, U 116, U 117, U 118, U 119, U 120, U 121, U 122, U 123, U 124, U 125, U 126, U 127, U 128, U 129, U 130, U 131, U 132, U 133, U 134, U 135, U 136, U 137, U 138, U 139, U 140, U 141, U 142, U 143, U 144, U 145, U 146, U 147, U 148, U 149, U 150, U 151, U 152, U 153, U 154, U 155, U 156, U 157, U 158, U 159, U 160, U 161, U 162, U 163, U 164, U 165, U 166, U 167, U 168, U 169, U 170, U 171, U 172, U 173, U 174, U 175, U 176, U 177, U 178, U 179, U 180, U 181, U 182, U 183, U 184, U 185, U 186, U 187], []⟩) (by kernel_rfl)
            clear hF
            refine hnext _ _ ?_
            clear hnext
            have zw3w4 := hbw3w4.size
            have zw4w5 := hbw4w5.size
            have zw5w5a := hbw5w5a.size
            have zw5aw6 := hbw5aw6.size
            have zw6w7 := hb67.size
            have zw7w8 := hbw7w8.size
            have zw8w9 := hbw8w9.size
            have zw9w10 := hbw9w10.size
            have zw10w10a := hbw10w10a.size
            have zw10aw11 := hbw10aw11.size
            have hbA : Below w3.heap.size w3 w11 := (((((((((hbw3w4).trans (hbw4w5.mono (by omega))).trans (hbw5w5a.mono (by omega))).trans (hbw5aw6.mono (by omega))).trans (hb67.mono (by omega))).trans (hbw7w8.mono (by omega))).trans (hbw8w9.mono (by omega))).trans (hbw9w10.mono (by omega))).trans (hbw10w10a.mono (by omega))).trans (hbw10aw11.mono (by omega))
            replace hBk : BkS w11 r B (own6 own w3.heap.size w4.heap.size w5.heap.size w6.heap.size w9.heap.size w10.heap.size) Lf Lk := (hBk.retag (fun k hk => own6_old hk)).chg hbA
            replace hb := hb.trans (hbA.mono hBw)
            replace h0 : ∀ k, k < B → own6 own w3.heap.size w4.heap.size w5.heap.size w6.heap.size w9.heap.size w10.heap.size k = 0 := fun k hk => (own6_old (by omega)).trans (h0 k hk)
            have p20 : Pend (own6 own w3.heap.size w4.heap.size w5.heap.size w6.heap.size w9.heap.size w10.heap.size) B w11 xv (Wi.packOut p) 20 := ⟨hxv.more hBw, by omega, fun k e => by have := hxvk k e; exact own6_20 this.1 this.2⟩
            have p21 : Pend (own6 own w3.heap.size w4.heap.size w5.heap.size w6.heap.size w9.heap.size w10.heap.size) B w11 yv (Wi.packOut p) 21 := ⟨hyv.more (by omega), by omega, fun k e => by have := hyvk k e; exact own6_21 (by omega) this.1 this.2⟩
            have p22 : Pend (own6 own w3.heap.size w4.heap.size w5.heap.size w6.heap.size w9.heap.size w10.heap.size) B w11 qv u1.data 22 := ⟨hqv.more (by omega), hd1, fun k e => by have := hqvk k e; exact own6_22 (by omega) (by omega) this.1 (by omega)⟩
            have p23 : Pend (own6 own w3.heap.size w4.heap.size w5.heap.size w6.heap.size w9.heap.size w10.heap.size) B w11 x2v (Wi.packOut p) 23 := ⟨hx2v.more (by omega), by omega, fun k e => by have := hx2vk k e; exact own6_23 (by omega) (by omega) (by omega) (by omega) this.2⟩
            have p24 : Pend (own6 own w3.heap.size w4.heap.size w5.heap.size w6.heap.size w9.heap.size w10.heap.size) B w11 y2v (Wi.packOut p) 24 := ⟨hy2v.more (by omega), by omega, fun k e => by have := hy2vk k e; exact own6_24 (by omega) (by omega) (by omega) (by omega) this.1 this.2⟩
            have p25 : Pend (own6 own w3.heap.size w4.heap.size w5.heap.size w6.heap.size w9.heap.size w10.heap.size) B w11 q2v u1.data 25 := ⟨hq2v.more (by omega), hd1, fun k e => by have := hq2vk k e; exact own6_25 (by omega) (by omega) (by omega) (by omega) (by omega) this.1⟩
            have tD1 : own6 own w3.heap.size w4.heap.size w5.heap.size w6.heap.size w9.heap.size w10.heap.size D1 = 22 := own6_22 (by omega) (by omega) (by omega) (by omega)
            have tD2 : own6 own w3.heap.size w4.heap.size w5.heap.size w6.heap.size w9.heap.size w10.heap.size D2 = 25 := own6_25 (by omega) (by omega) (by omega) (by omega) (by omega) (by omega)
            have hBw11 : B ≤ w11.heap.size := by omega
            replace hD1lt := hQ1.lt
            replace hD2lt := hQ2.lt
            clear hxv hyv hqv hx2v hy2v hq2v hIt hrb hSz hbA
            generalize own6 own w3.heap.size w4.heap.size w5.heap.size w6.heap.size w9.heap.size w10.heap.size = ownQ at *
            have hLk6 : Lk.length + 24 ≤ 48 * i + 24 := by omega
            go_upto_region 17 with fail
            rename_i hnext
            refine wp_region_lit ?_
            refine Og.st_start (n := 188) rfl fun a hF => ?_
            refine Og.st_same (.pointer (some ⟨r, 0, none⟩)) hF rfl rfl (by decide) (by kernel_rfl) ?_
            clear hF a; intro a hF
            refine Og.st_same (xv) hF rfl rfl (by decide) (by kernel_rfl) ?_
            clear hF a; intro a hF
            refine Og.st_call (f := 36) (args := #[.pointer (some ⟨r, 0, none⟩), xv]) hF rfl rfl (by decide) ((Og.exec_call rfl bkeep_enter rfl _).trans (by kernel_rfl)) ((bkeep_calls hBk hBw11 p20.ob p20.len (p := 20) (by decide) p20.tag (by omega)).mono ?_)
            rintro e v0 ⟨rfl, ow0, Lf0, Lk0, hBkN, hLN, hCN, hag⟩
            refine ⟨_, rfl, ?_⟩
            clear hF a; intro a hF
            replace p21 := p21.keep hCN hag (by decide) (by decide)
            replace p22 := p22.keep hCN hag (by decide) (by decide)
            replace p23 := p23.keep hCN hag (by decide) (by decide)
            replace p24 := p24.keep hCN hag (by decide) (by decide)
            replace p25 := p25.keep hCN hag (by decide) (by decide)
            replace hQ2 := hQ2.chg hCN (by rw [tD2]; rfl)
            replace tD2 := (hag D2 hD2lt (by rw [tD2]; rfl)).trans tD2
            replace hD2lt := hQ2.lt
            replace hQ1 := hQ1.chg hCN (by rw [tD1]; rfl)
            replace tD1 := (hag D1 hD1lt (by rw [tD1]; rfl)).trans tD1
            replace hD1lt := hQ1.lt
            replace hb := hb.trans (hCN.lowB hBw11 h0 rfl (Nat.le_refl _))
            replace h0 : ∀ k, k < B → ow0 k = 0 := fun k hk => (hag k (by omega) (by rw [h0 k hk]; rfl)).trans (h0 k hk)
            replace hBw11 : B ≤ v0.heap.size := Nat.le_trans hBw11 hCN.size
            replace hBk := hBkN
            clear hBkN hCN hag
            refine wpList_nil ?_
            obtain ⟨U, rfl⟩ := Og.Fr.lit_ex hF (fun U => ⟨#[.slice q1 np c1, .slice q2 nf c2, U 2, U 3, .bool false, .pointer (some ⟨r, 0, none⟩), .int .i64 i, .pointer (some ⟨D0, 0, none⟩), xv, U 9, yv, .pointer (some ⟨D1, 0, none⟩), U 12, U 13, x2v, U 15, y2v, .pointer (some ⟨D2, 0, none⟩), U 18, U 19, U 20, U 21, U 22, U 23, U 24, U 25, U 26, U 27, U 28, U 29, U 30, U 31, U 32, U 33, U 34, U 35, U 36, U 37, U 38, U 39, U 40, U 41, U 42, U 43, U 44, U 45, U 46, U 47, U 48, U 49, U 50, U 51, U 52, U 53, U 54, U 55, U 56, U 57, U 58, U 59, U 60, U 61, U 62, U 63, U 64, U 65, U 66, U 67, U 68, U 69, U 70, U 71, U 72, U 73, U 74, U 75, U 76, U 77, U 78, U 79, U 80, U 81, U 82, U 83, U 84, U 85, U 86, U 87, U 88, U 89, U 90, U 91, U 92, U 93, U 94, U 95, U 96, U 97, U 98, U 99, U 100, U 101, U 102, U 103, U 104, U 105, U 106, U 107, U 108, U 109, U 110, U 111, U 112, U 113, U 114, U 115, U 116, U 117, U 118, U 119, U 120, U 121, U 122, U 123, U 124, U 125, U 126, U 127, U 128, U 129, U 130, U 131, U 132, U 133, U 134, U 135, U 136, U 137, U 138, U 139, U 140, U 141, U 142, U 143, U 144, U 145, U 146, U 147, U 148, U 149, U 150, U 151, U 152, U 153, U 154, U 155, U 156, U 157, U 158, U 159, U 160, U 161, U 162, U 163, U 164, U 165, U 166, U 167, U 168, U 169, U 170, U 171, U 172, U 173, U 174, U 175, U 176, U 177, U 178, U 179, U 180, U 181, U 182, U 183, U 184, U 185, U 186, U 187], []⟩) (by kernel_rfl)
            clear hF
            refine hnext _ _ ?_
            clear hnext
            go_upto_region 18 with fail
            rename_i hnext
            refine wp_region_lit ?_
            refine Og.st_start (n := 188) rfl fun a hF => ?_
            refine Og.st_same (.pointer (some ⟨r, 0, none⟩)) hF rfl rfl (by decide) (by kernel_rfl) ?_
            clear hF a; intro a hF
            refine Og.st_same (x2v) hF rfl rfl (by decide) (by kernel_rfl) ?_
            clear hF a; intro a hF
            refine Og.st_call (f := 36) (args := #[.pointer (some ⟨r, 0, none⟩), x2v]) hF rfl rfl (by decide) ((Og.exec_call rfl bkeep_enter rfl _).trans (by kernel_rfl)) ((bkeep_calls hBk hBw11 p23.ob p23.len (p := 23) (by decide) p23.tag (by omega)).mono ?_)
            rintro e v1 ⟨rfl, ow1, Lf1, Lk1, hBkN, hLN, hCN, hag⟩
            refine ⟨_, rfl, ?_⟩
            clear hF a; intro a hF
            replace p21 := p21.keep hCN hag (by decide) (by decide)
            replace p22 := p22.keep hCN hag (by decide) (by decide)
            replace p24 := p24.keep hCN hag (by decide) (by decide)
            replace p25 := p25.keep hCN hag (by decide) (by decide)
            replace hQ2 := hQ2.chg hCN (by rw [tD2]; rfl)
            replace tD2 := (hag D2 hD2lt (by rw [tD2]; rfl)).trans tD2
            replace hD2lt := hQ2.lt
            replace hQ1 := hQ1.chg hCN (by rw [tD1]; rfl)
            replace tD1 := (hag D1 hD1lt (by rw [tD1]; rfl)).trans tD1
            replace hD1lt := hQ1.lt
            replace hb := hb.trans (hCN.lowB hBw11 h0 rfl (Nat.le_refl _))
            replace h0 : ∀ k, k < B → ow1 k = 0 := fun k hk => (hag k (by omega) (by rw [h0 k hk]; rfl)).trans (h0 k hk)
            replace hBw11 : B ≤ v1.heap.size := Nat.le_trans hBw11 hCN.size
            replace hBk := hBkN
            clear hBkN hCN hag
            refine wpList_nil ?_
            obtain ⟨U, rfl⟩ := Og.Fr.lit_ex hF (fun U => ⟨#[.slice q1 np c1, .slice q2 nf c2, U 2, U 3, .bool false, .pointer (some ⟨r, 0, none⟩), .int .i64 i, .pointer (some ⟨D0, 0, none⟩), xv, U 9, yv, .pointer (some ⟨D1, 0, none⟩), U 12, U 13, x2v, U 15, y2v, .pointer (some ⟨D2, 0, none⟩), U 18, U 19, U 20, U 21, U 22, U 23, U 24, U 25, U 26, U 27, U 28, U 29, U 30, U 31, U 32, U 33, U 34, U 35, U 36, U 37, U 38, U 39, U 40, U 41, U 42, U 43, U 44, U 45, U 46, U 47, U 48, U 49, U 50, U 51, U 52, U 53, U 54, U 55, U 56, U 57, U 58, U 59, U 60, U 61, U 62, U 63, U 64, U 65, U 66, U 67, U 68, U 69, U 70, U 71, U 72, U 73, U 74, U 75, U 76, U 77, U 78, U 79, U 80, U 81, U 82, U 83, U 84, U 85, U 86, U 87, U 88, U 89, U 90, U 91, U 92, U 93, U 94, U 95, U 96, U 97, U 98, U 99, U 100, U 101, U 102, U 103, U 104, U 105, U 106, U 107, U 108, U 109, U 110, U 111, U 112, U 113, U 114, U 115, U 116, U 117, U 118, U 119, U 120, U 121, U 122, U 123, U 124, U 125, U 126, U 127, U 128, U 129, U 130, U 131, U 132, U 133, U 134, U 135, U 136, U 137, U 138, U 139, U 140, U 141, U 142, U 143, U 144, U 145, U 146, U 147, U 148, U 149, U 150, U 151, U 152, U 153, U 154, U 155, U 156, U 157, U 158, U 159, U 160, U 161, U 162, U 163, U 164, U 165, U 166, U 167, U 168, U 169, U 170, U 171, U 172, U 173, U 174, U 175, U 176, U 177, U 178, U 179, U 180, U 181, U 182, U 183, U 184, U 185, U 186, U 187], []⟩) (by kernel_rfl)
            clear hF
            refine hnext _ _ ?_
            clear hnext
            go_upto_region 19 with fail
            rename_i hnext
            refine wp_region_lit ?_
            refine Og.st_start (n := 188) rfl fun a hF => ?_
            refine Og.st_same (.pointer (some ⟨r, 0, none⟩)) hF rfl rfl (by decide) (by kernel_rfl) ?_
            clear hF a; intro a hF
            refine Og.st_same (.pointer (some ⟨D1, 42, none⟩)) hF rfl rfl (by decide) (by kernel_rfl) ?_
            clear hF a; intro a hF
            refine Og.st_same (qv) hF rfl rfl (by decide) (Og.exec_load rfl (ld_pdat hQ1 hok1 p22.ob.rb)) ?_
            clear hF a; intro a hF
            refine Og.st_call (f := 36) (args := #[.pointer (some ⟨r, 0, none⟩), qv]) hF rfl rfl (by decide) ((Og.exec_call rfl bkeep_enter rfl _).trans (by kernel_rfl)) ((bkeep_calls hBk hBw11 p22.ob p22.len (p := 22) (by decide) p22.tag (by omega)).mono ?_)
            rintro e v2 ⟨rfl, ow2, Lf2, Lk2, hBkN, hLN, hCN, hag⟩
            refine ⟨_, rfl, ?_⟩
            clear hF a; intro a hF
            replace p21 := p21.keep hCN hag (by decide) (by decide)
            replace p24 := p24.keep hCN hag (by decide) (by decide)
            replace p25 := p25.keep hCN hag (by decide) (by decide)
            replace hQ2 := hQ2.chg hCN (by rw [tD2]; rfl)
            replace tD2 := (hag D2 hD2lt (by rw [tD2]; rfl)).trans tD2
            replace hD2lt := hQ2.lt
            replace hb := hb.trans (hCN.lowB hBw11 h0 rfl (Nat.le_refl _))
            replace h0 : ∀ k, k < B → ow2 k = 0 := fun k hk => (hag k (by omega) (by rw [h0 k hk]; rfl)).trans (h0 k hk)
            replace hBw11 : B ≤ v2.heap.size := Nat.le_trans hBw11 hCN.size
            replace hBk := hBkN
            clear hBkN hCN hag
            refine wpList_nil ?_
            obtain ⟨U, rfl⟩ := Og.Fr.lit_ex hF (fun U => ⟨#[.slice q1 np c1, .slice q2 nf c2, U 2, U 3, .bool false, .pointer (some ⟨r, 0, none⟩), .int .i64 i, .pointer (some ⟨D0, 0, none⟩), xv, U 9, yv, .pointer (some ⟨D1, 0, none⟩), U 12, U 13, x2v, U 15, y2v, .pointer (some ⟨D2, 0, none⟩), U 18, U 19, U 20, U 21, U 22, U 23, U 24, U 25, U 26, U 27, U 28, U 29, U 30, U 31, U 32, U 33, U 34, U 35, U 36, U 37, U 38, U 39, U 40, U 41, U 42, U 43, U 44, U 45, U 46, U 47, U 48, U 49, U 50, U 51, U 52, U 53, U 54, U 55, U 56, U 57, U 58, U 59, U 60, U 61, U 62, U 63, U 64, U 65, U 66, U 67, U 68, U 69, U 70, U 71, U 72, U 73, U 74, U 75, U 76, U 77, U 78, U 79, U 80, U 81, U 82, U 83, U 84, U 85, U 86, U 87, U 88, U 89, U 90, U 91, U 92, U 93, U 94, U 95, U 96, U 97, U 98, U 99, U 100, U 101, U 102, U 103, U 104, U 105, U 106, U 107, U 108, U 109, U 110, U 111, U 112, U 113, U 114, U 115, U 116, U 117, U 118, U 119, U 120, U 121, U 122, U 123, U 124, U 125, U 126, U 127, U 128, U 129, U 130, U 131, U 132, U 133, U 134, U 135, U 136, U 137, U 138, U 139, U 140, U 141, U 142, U 143, U 144, U 145, U 146, U 147, U 148, U 149, U 150, U 151, U 152, U 153, U 154, U 155, U 156, U 157, U 158, U 159, U 160, U 161, U 162, U 163, U 164, U 165, U 166, U 167, U 168, U 169, U 170, U 171, U 172, U 173, U 174, U 175, U 176, U 177, U 178, U 179, U 180, U 181, U 182, U 183, U 184, U 185, U 186, U 187], []⟩) (by kernel_rfl)
            clear hF
            refine hnext _ _ ?_
            clear hnext
            go_upto_region 20 with fail
            rename_i hnext
            refine wp_region_lit ?_
            refine Og.st_start (n := 188) rfl fun a hF => ?_
            refine Og.st_same (.pointer (some ⟨r, 0, none⟩)) hF rfl rfl (by decide) (by kernel_rfl) ?_
            clear hF a; intro a hF
            refine Og.st_same (.pointer (some ⟨D2, 42, none⟩)) hF rfl rfl (by decide) (by kernel_rfl) ?_
            clear hF a; intro a hF
            refine Og.st_same (q2v) hF rfl rfl (by decide) (Og.exec_load rfl (ld_pdat hQ2 hok1 p25.ob.rb)) ?_
            clear hF a; intro a hF
            refine Og.st_call (f := 36) (args := #[.pointer (some ⟨r, 0, none⟩), q2v]) hF rfl rfl (by decide) ((Og.exec_call rfl bkeep_enter rfl _).trans (by kernel_rfl)) ((bkeep_calls hBk hBw11 p25.ob p25.len (p := 25) (by decide) p25.tag (by omega)).mono ?_)
            rintro e v3 ⟨rfl, ow3, Lf3, Lk3, hBkN, hLN, hCN, hag⟩
            refine ⟨_, rfl, ?_⟩
            clear hF a; intro a hF
            replace p21 := p21.keep hCN hag (by decide) (by decide)
            replace p24 := p24.keep hCN hag (by decide) (by decide)
            replace hb := hb.trans (hCN.lowB hBw11 h0 rfl (Nat.le_refl _))
            replace h0 : ∀ k, k < B → ow3 k = 0 := fun k hk => (hag k (by omega) (by rw [h0 k hk]; rfl)).trans (h0 k hk)
            replace hBw11 : B ≤ v3.heap.size := Nat.le_trans hBw11 hCN.size
            replace hBk := hBkN
            clear hBkN hCN hag
            refine wpList_nil ?_
            obtain ⟨U, rfl⟩ := Og.Fr.lit_ex hF (fun U => ⟨#[.slice q1 np c1, .slice q2 nf c2, U 2, U 3, .bool false, .pointer (some ⟨r, 0, none⟩), .int .i64 i, .pointer (some ⟨D0, 0, none⟩), xv, U 9, yv, .pointer (some ⟨D1, 0, none⟩), U 12, U 13, x2v, U 15, y2v, .pointer (some ⟨D2, 0, none⟩), U 18, U 19, U 20, U 21, U 22, U 23, U 24, U 25, U 26, U 27, U 28, U 29, U 30, U 31, U 32, U 33, U 34, U 35, U 36, U 37, U 38, U 39, U 40, U 41, U 42, U 43, U 44, U 45, U 46, U 47, U 48, U 49, U 50, U 51, U 52, U 53, U 54, U 55, U 56, U 57, U 58, U 59, U 60, U 61, U 62, U 63, U 64, U 65, U 66, U 67, U 68, U 69, U 70, U 71, U 72, U 73, U 74, U 75, U 76, U 77, U 78, U 79, U 80, U 81, U 82, U 83, U 84, U 85, U 86, U 87, U 88, U 89, U 90, U 91, U 92, U 93, U 94, U 95, U 96, U 97, U 98, U 99, U 100, U 101, U 102, U 103, U 104, U 105, U 106, U 107, U 108, U 109, U 110, U 111, U 112, U 113, U 114, U 115, U 116, U 117, U 118, U 119, U 120, U 121, U 122, U 123, U 124, U 125, U 126, U 127, U 128, U 129, U 130, U 131, U 132, U 133, U 134, U 135, U 136, U 137, U 138, U 139, U 140, U 141, U 142, U 143, U 144, U 145, U 146, U 147, U 148, U 149, U 150, U 151, U 152, U 153, U 154, U 155, U 156, U 157, U 158, U 159, U 160, U 161, U 162, U 163, U 164, U 165, U 166, U 167, U 168, U 169, U 170, U 171, U 172, U 173, U 174, U 175, U 176, U 177, U 178, U 179, U 180, U 181, U 182, U 183, U 184, U 185, U 186, U 187], []⟩) (by kernel_rfl)
            clear hF
            refine hnext _ _ ?_
            clear hnext
            go_upto_region 21 with fail
            rename_i hnext
            refine wp_region_lit ?_
            refine Og.st_start (n := 188) rfl fun a hF => ?_
            refine Og.st_same (.pointer (some ⟨r, 0, none⟩)) hF rfl rfl (by decide) (by kernel_rfl) ?_
            clear hF a; intro a hF
            refine Og.st_same (yv) hF rfl rfl (by decide) (by kernel_rfl) ?_
            clear hF a; intro a hF
            refine Og.st_call (f := 36) (args := #[.pointer (some ⟨r, 0, none⟩), yv]) hF rfl rfl (by decide) ((Og.exec_call rfl bkeep_enter rfl _).trans (by kernel_rfl)) ((bkeep_calls hBk hBw11 p21.ob p21.len (p := 21) (by decide) p21.tag (by omega)).mono ?_)
            rintro e v4 ⟨rfl, ow4, Lf4, Lk4, hBkN, hLN, hCN, hag⟩
            refine ⟨_, rfl, ?_⟩
            clear hF a; intro a hF
            replace p24 := p24.keep hCN hag (by decide) (by decide)
            replace hb := hb.trans (hCN.lowB hBw11 h0 rfl (Nat.le_refl _))
            replace h0 : ∀ k, k < B → ow4 k = 0 := fun k hk => (hag k (by omega) (by rw [h0 k hk]; rfl)).trans (h0 k hk)
            replace hBw11 : B ≤ v4.heap.size := Nat.le_trans hBw11 hCN.size
            replace hBk := hBkN
            clear hBkN hCN hag
            refine wpList_nil ?_
            obtain ⟨U, rfl⟩ := Og.Fr.lit_ex hF (fun U => ⟨#[.slice q1 np c1, .slice q2 nf c2, U 2, U 3, .bool false, .pointer (some ⟨r, 0, none⟩), .int .i64 i, .pointer (some ⟨D0, 0, none⟩), xv, U 9, yv, .pointer (some ⟨D1, 0, none⟩), U 12, U 13, x2v, U 15, y2v, .pointer (some ⟨D2, 0, none⟩), U 18, U 19, U 20, U 21, U 22, U 23, U 24, U 25, U 26, U 27, U 28, U 29, U 30, U 31, U 32, U 33, U 34, U 35, U 36, U 37, U 38, U 39, U 40, U 41, U 42, U 43, U 44, U 45, U 46, U 47, U 48, U 49, U 50, U 51, U 52, U 53, U 54, U 55, U 56, U 57, U 58, U 59, U 60, U 61, U 62, U 63, U 64, U 65, U 66, U 67, U 68, U 69, U 70, U 71, U 72, U 73, U 74, U 75, U 76, U 77, U 78, U 79, U 80, U 81, U 82, U 83, U 84, U 85, U 86, U 87, U 88, U 89, U 90, U 91, U 92, U 93, U 94, U 95, U 96, U 97, U 98, U 99, U 100, U 101, U 102, U 103, U 104, U 105, U 106, U 107, U 108, U 109, U 110, U 111, U 112, U 113, U 114, U 115, U 116, U 117, U 118, U 119, U 120, U 121, U 122, U 123, U 124, U 125, U 126, U 127, U 128, U 129, U 130, U 131, U 132, U 133, U 134, U 135, U 136, U 137, U 138, U 139, U 140, U 141, U 142, U 143, U 144, U 145, U 146, U 147, U 148, U 149, U 150, U 151, U 152, U 153, U 154, U 155, U 156, U 157, U 158, U 159, U 160, U 161, U 162, U 163, U 164, U 165, U 166, U 167, U 168, U 169, U 170, U 171, U 172, U 173, U 174, U 175, U 176, U 177, U 178, U 179, U 180, U 181, U 182, U 183, U 184, U 185, U 186, U 187], []⟩) (by kernel_rfl)
            clear hF
            refine hnext _ _ ?_
            clear hnext
            go_upto_region 22 with fail
            refine wp_region_lit ?_
            refine Og.st_start (n := 188) rfl fun a hF => ?_
            refine Og.st_same (.pointer (some ⟨r, 0, none⟩)) hF rfl rfl (by decide) (by kernel_rfl) ?_
            clear hF a; intro a hF
            refine Og.st_same (y2v) hF rfl rfl (by decide) (by kernel_rfl) ?_
            clear hF a; intro a hF
            refine Og.st_call (f := 36) (args := #[.pointer (some ⟨r, 0, none⟩), y2v]) hF rfl rfl (by decide) ((Og.exec_call rfl bkeep_enter rfl _).trans (by kernel_rfl)) ((bkeep_calls hBk hBw11 p24.ob p24.len (p := 24) (by decide) p24.tag (by omega)).mono ?_)
            rintro e v5 ⟨rfl, ow5, Lf5, Lk5, hBkN, hLN, hCN, hag⟩
            refine ⟨_, rfl, ?_⟩
            clear hF a; intro a hF
            replace hb := hb.trans (hCN.lowB hBw11 h0 rfl (Nat.le_refl _))
            replace h0 : ∀ k, k < B → ow5 k = 0 := fun k hk => (hag k (by omega) (by rw [h0 k hk]; rfl)).trans (h0 k hk)
            replace hBw11 : B ≤ v5.heap.size := Nat.le_trans hBw11 hCN.size
            replace hBk := hBkN
            clear hBkN hCN hag
            refine wpList_nil ?_
            obtain ⟨U, rfl⟩ := Og.Fr.lit_ex hF (fun U => ⟨#[.slice q1 np c1, .slice q2 nf c2, U 2, U 3, .bool false, .pointer (some ⟨r, 0, none⟩), .int .i64 i, U 7, U 8, U 9, U 10, U 11, U 12, U 13, U 14, U 15, U 16, U 17, U 18, U 19, U 20, U 21, U 22, U 23, U 24, U 25, U 26, U 27, U 28, U 29, U 30, U 31, U 32, U 33, U 34, U 35, U 36, U 37, U 38, U 39, U 40, U 41, U 42, U 43, U 44, U 45, U 46, U 47, U 48, U 49, U 50, U 51, U 52, U 53, U 54, U 55, U 56, U 57, U 58, U 59, U 60, U 61, U 62, U 63, U 64, U 65, U 66, U 67, U 68, U 69, U 70, U 71, U 72, U 73, U 74, U 75, U 76, U 77, U 78, U 79, U 80, U 81, U 82, U 83, U 84, U 85, U 86, U 87, U 88, U 89, U 90, U 91, U 92, U 93, U 94, U 95, U 96, U 97, U 98, U 99, U 100, U 101, U 102, U 103, U 104, U 105, U 106, U 107, U 108, U 109, U 110, U 111, U 112, U 113, U 114, U 115, U 116, U 117, U 118, U 119, U 120, U 121, U 122, U 123, U 124, U 125, U 126, U 127, U 128, U 129, U 130, U 131, U 132, U 133, U 134, U 135, U 136, U 137, U 138, U 139, U 140, U 141, U 142, U 143, U 144, U 145, U 146, U 147, U 148, U 149, U 150, U 151, U 152, U 153, U 154, U 155, U 156, U 157, U 158, U 159, U 160, U 161, U 162, U 163, U 164, U 165, U 166, U 167, U 168, U 169, U 170, U 171, U 172, U 173, U 174, U 175, U 176, U 177, U 178, U 179, U 180, U 181, U 182, U 183, U 184, U 185, U 186, U 187], []⟩) (by kernel_rfl)
            exact hK' _ _ (Met.intro (HJ.out _ _ ⟨ow5, Lf5, Lk5, ⟨U, rfl⟩, hBk, by omega, h0, hb, hBw11⟩))
          by_cases he0 : Wi.packErr p = 0
          · obtain ⟨hu, he⟩ := hback0 he0
            rw [he0]
            rw [hu] at hQ1 hqv
            rw [he]
            refine wp_region_lit ?_
            refine Og.st_start (n := 188) rfl fun a hF => ?_
            refine Og.st_same (.int .i64 0) hF rfl rfl (by decide) (by kernel_rfl) ?_
            clear hF a; intro a hF
            refine Og.st_call (f := 17) (args := #[.int .i64 0]) hF rfl rfl (by decide) ((Og.exec_call rfl num_enter rfl _).trans (by kernel_rfl)) (((num_same _ 0).out).mono ?_)
            rintro e w6' ⟨rfl, rfl⟩
            refine ⟨_, rfl, ?_⟩
            clear hF a; intro a hF
            refine Og.st_same (.bool true) hF rfl rfl (by decide) (by kernel_rfl) ?_
            clear hF a; intro a hF
            refine Og.st_same (.bool true) hF rfl rfl (by decide) (by kernel_rfl) ?_
            clear hF a; intro a hF
            refine Og.st_same_g (.int .i64 0) hF (by kernel_rfl) rfl (by decide) (by kernel_rfl) ?_
            clear hF a; intro a hF
            refine Og.st_call_g (f := 17) (args := #[.int .i64 0]) hF (by kernel_rfl) rfl (by decide) ((Og.exec_call rfl num_enter rfl _).trans (by kernel_rfl)) (((num_same _ 0).out).mono ?_)
            rintro e w6' ⟨rfl, rfl⟩
            refine ⟨_, rfl, ?_⟩
            clear hF a; intro a hF
            refine Og.st_same_g (.bool false) hF (by kernel_rfl) rfl (by decide) (by kernel_rfl) ?_
            clear hF a; intro a hF
            refine Og.st_same_g (.bool false) hF (by kernel_rfl) rfl (by decide) (by kernel_rfl) ?_
            clear hF a; intro a hF
            refine Og.st_same_g (.agg (pkL p pv).toArray) hF (by kernel_rfl) rfl (by decide) (Og.exec_load rfl (load_pk hIt hok)) ?_
            clear hF a; intro a hF
            refine Og.st_same_g (.agg (pkL p qv).toArray) hF (by kernel_rfl) rfl (by decide) (Og.exec_load rfl (load_pk hQ1 hok)) ?_
            clear hF a; intro a hF
            refine Og.st_call_g (f := 23) (args := #[.agg (pkL p pv).toArray, .agg (pkL p qv).toArray]) hF (by kernel_rfl) rfl (by decide) ((Og.exec_call rfl samePk_enter rfl _).trans (by kernel_rfl)) (((samePk_calls hok hrb hqv.rb).out).mono ?_)
            rintro e w7 ⟨rfl, hb67⟩
            refine ⟨_, rfl, ?_⟩
            clear hF a; intro a hF
            refine Og.st_same_g (.bool false) hF (by kernel_rfl) rfl (by decide) (by kernel_rfl) ?_
            clear hF a; intro a hF
            refine Og.st_same_g (.bool false) hF (by kernel_rfl) rfl (by decide) (by kernel_rfl) ?_
            clear hF a; intro a hF
            refine Og.st_same (.bool false) hF rfl rfl (by decide) (by kernel_rfl) ?_
            clear hF a; intro a hF
            refine wpList_nil ?_
            obtain ⟨U, rfl⟩ := Og.Fr.lit_ex hF (fun U => ⟨#[.slice q1 np c1, .slice q2 nf c2, U 2, U 3, .bool false, .pointer (some ⟨r, 0, none⟩), .int .i64 i, .pointer (some ⟨D0, 0, none⟩), xv, .int .i64 0, yv, .pointer (some ⟨D1, 0, none⟩), U 12, .int .i64 0, U 14, U 15, U 16, U 17, U 18, U 19, U 20, U 21, U 22, U 23, U 24, U 25, U 26, U 27, U 28, U 29, U 30, U 31, U 32, U 33, U 34, U 35, U 36, U 37, U 38, U 39, U 40, U 41, U 42, U 43, U 44, U 45, U 46, U 47, U 48, U 49, U 50, U 51, U 52, U 53, U 54, U 55, U 56, U 57, U 58, U 59, U 60, U 61, U 62, U 63, U 64, U 65, U 66, U 67, U 68, U 69, U 70, U 71, U 72, U 73, U 74, U 75, U 76, U 77, U 78, U 79, U 80, U 81, .bool false, U 83, U 84, U 85, U 86, U 87, U 88, U 89, U 90, U 91, U 92, U 93, U 94, U 95, U 96, U 97, U 98, U 99, U 100, U 101, U 102, U 103, U 104, U 105, U 106, U 107, U 108, U 109, U 110, U 111, U 112, U 113, U 114, U 115, U 116, U 117, U 118, U 119, U 120, U 121, U 122, U 123, U 124, U 125, U 126, U 127, U 128, U 129, U 130, U 131, U 132, U 133, U 134, U 135, U 136, U 137, U 138, U 139, U 140, U 141, U 142, U 143, U 144, U 145, U 146, U 147, U 148, U 149, U 150, U 151, U 152, U 153, U 154, U 155, U 156, U 157, U 158, U 159, U 160, U 161, U 162, U 163, U 164, U 165, U 166, U 167, U 168, U 169, U 170, U 171, U 172, U 173, U 174, U 175, U 176, U 177, U 178, U 179, U 180, U 181, U 182, U 183, U 184, U 185, U 186, U 187], []⟩) (by kernel_rfl)
            rw [he0, he] at key2
            exact key2 U _ hb67
          · have hne : ((Wi.packErr p) == 0) = false := by simpa using he0
            refine wp_region_lit ?_
            refine Og.st_start (n := 188) rfl fun a hF => ?_
            refine Og.st_same (.int .i64 (Wi.packErr p)) hF rfl rfl (by decide) (by kernel_rfl) ?_
            clear hF a; intro a hF
            refine Og.st_call (f := 17) (args := #[.int .i64 (Wi.packErr p)]) hF rfl rfl (by decide) ((Og.exec_call rfl num_enter rfl _).trans (by kernel_rfl)) (((num_same _ (Wi.packErr p)).out).mono ?_)
            rintro e w6' ⟨rfl, rfl⟩
            refine ⟨_, rfl, ?_⟩
            clear hF a; intro a hF
            refine Og.st_same (.bool ((Wi.packErr p) == 0)) hF rfl rfl (by decide) (by kernel_rfl) ?_
            clear hF a; intro a hF
            rw [hne] at hF
            refine Og.st_same (.bool false) hF rfl rfl (by decide) (by kernel_rfl) ?_
            clear hF a; intro a hF
            refine Og.st_pass hF (by kernel_rfl) rfl (by decide) ?_
            clear hF a; intro a hF
            refine Og.st_pass hF (by kernel_rfl) rfl (by decide) ?_
            clear hF a; intro a hF
            refine Og.st_pass hF (by kernel_rfl) rfl (by decide) ?_
            clear hF a; intro a hF
            refine Og.st_pass hF (by kernel_rfl) rfl (by decide) ?_
            clear hF a; intro a hF
            refine Og.st_pass hF (by kernel_rfl) rfl (by decide) ?_
            clear hF a; intro a hF
            refine Og.st_pass hF (by kernel_rfl) rfl (by decide) ?_
            clear hF a; intro a hF
            refine Og.st_pass hF (by kernel_rfl) rfl (by decide) ?_
            clear hF a; intro a hF
            refine Og.st_pass hF (by kernel_rfl) rfl (by decide) ?_
            clear hF a; intro a hF
            refine Og.st_pass hF (by kernel_rfl) rfl (by decide) ?_
            clear hF a; intro a hF
            refine Og.st_same (.bool false) hF rfl rfl (by decide) (by kernel_rfl) ?_
            clear hF a; intro a hF
            refine wpList_nil ?_
            obtain ⟨U, rfl⟩ := Og.Fr.lit_ex hF (fun U => ⟨#[.slice q1 np c1, .slice q2 nf c2, U 2, U 3, .bool false, .pointer (some ⟨r, 0, none⟩), .int .i64 i, .pointer (some ⟨D0, 0, none⟩), xv, .int .i64 (Wi.packErr p), yv, .pointer (some ⟨D1, 0, none⟩), U 12, .int .i64 e1, U 14, U 15, U 16, U 17, U 18, U 19, U 20, U 21, U 22, U 23, U 24, U 25, U 26, U 27, U 28, U 29, U 30, U 31, U 32, U 33, U 34, U 35, U 36, U 37, U 38, U 39, U 40, U 41, U 42, U 43, U 44, U 45, U 46, U 47, U 48, U 49, U 50, U 51, U 52, U 53, U 54, U 55, U 56, U 57, U 58, U 59, U 60, U 61, U 62, U 63, U 64, U 65, U 66, U 67, U 68, U 69, U 70, U 71, U 72, U 73, U 74, U 75, U 76, U 77, U 78, U 79, U 80, U 81, .bool false, U 83, U 84, U 85, U 86, U 87, U 88, U 89, U 90, U 91, U 92, U 93, U 94, U 95, U 96, U 97, U 98, U 99, U 100, U 101, U 102, U 103, U 104, U 105, U 106, U 107, U 108, U 109, U 110, U 111, U 112, U 113, U 114, U 115, U 116, U 117, U 118, U 119, U 120, U 121, U 122, U 123, U 124, U 125, U 126, U 127, U 128, U 129, U 130, U 131, U 132, U 133, U 134, U 135, U 136, U 137, U 138, U 139, U 140, U 141, U 142, U 143, U 144, U 145, U 146, U 147, U 148, U 149, U 150, U 151, U 152, U 153, U 154, U 155, U 156, U 157, U 158, U 159, U 160, U 161, U 162, U 163, U 164, U 165, U 166, U 167, U 168, U 169, U 170, U 171, U 172, U 173, U 174, U 175, U 176, U 177, U 178, U 179, U 180, U 181, U 182, U 183, U 184, U 185, U 186, U 187], []⟩) (by kernel_rfl)
            exact key2 U _ (Below.refl _ _)
    refine wp_region_lit ?_
    refine Og.st_start (n := 188) rfl fun a hF => ?_
    refine Og.st_same (.int .i64 i) hF rfl rfl (by decide) (by kernel_rfl) ?_
    clear hF a; intro a hF
    refine Og.st_same (.slice q1 np c1) hF rfl rfl (by decide) (by kernel_rfl) ?_
    clear hF a; intro a hF
    refine Og.st_same (.int .i64 np) hF rfl rfl (by decide) (by kernel_rfl) ?_
    clear hF a; intro a hF
    refine Og.st_same (.bool (decide ((i : Int) < (np : Int)))) hF rfl rfl (by decide) (by kernel_rfl) ?_
    clear hF a; intro a hF
    cases hb : decide ((i : Int) < (np : Int))
    · rw [hb] at hF
      refine Og.st_same (.bool false) hF rfl rfl (by decide) (by kernel_rfl) ?_
      clear hF a; intro a hF
      refine Og.st_same_g (.int .i64 i) hF (by kernel_rfl) rfl (by decide) (by kernel_rfl) ?_
      clear hF a; intro a hF
      refine Og.st_same_g (.slice q2 nf c2) hF (by kernel_rfl) rfl (by decide) (by kernel_rfl) ?_
      clear hF a; intro a hF
      refine Og.st_same_g (.int .i64 nf) hF (by kernel_rfl) rfl (by decide) (by kernel_rfl) ?_
      clear hF a; intro a hF
      refine Og.st_same_g (.bool (decide ((i : Int) < (nf : Int)))) hF (by kernel_rfl) rfl (by decide) (by kernel_rfl) ?_
      clear hF a; intro a hF
      rw [show decide ((i : Int) < (nf : Int)) = true from decide_eq_true (by simp at hb; omega)] at hF
      refine Og.st_same (.bool true) hF rfl rfl (by decide) (by kernel_rfl) ?_
      clear hF a; intro a hF
      refine wpList_nil ?_
      obtain ⟨U, rfl⟩ := Og.Fr.lit_ex hF (fun U => ⟨#[.slice q1 np c1, .slice q2 nf c2, U 2, U 3, .bool false, .pointer (some ⟨r, 0, none⟩), .int .i64 i, U 7, U 8, U 9, U 10, U 11, U 12, U 13, U 14, U 15, U 16, U 17, U 18, U 19, U 20, U 21, U 22, U 23, U 24, U 25, U 26, U 27, U 28, U 29, U 30, U 31, U 32, U 33, U 34, U 35, U 36, U 37, U 38, U 39, U 40, U 41, U 42, U 43, .bool true, U 45, U 46, U 47, U 48, U 49, U 50, U 51, U 52, U 53, U 54, U 55, U 56, U 57, U 58, U 59, U 60, U 61, U 62, U 63, U 64, U 65, U 66, U 67, U 68, U 69, U 70, U 71, U 72, U 73, U 74, U 75, U 76, U 77, U 78, U 79, U 80, U 81, U 82, U 83, U 84, U 85, U 86, U 87, U 88, U 89, U 90, U 91, U 92, U 93, U 94, U 95, U 96, U 97, U 98, U 99, U 100, U 101, U 102, U 103, U 104, U 105, U 106, U 107, U 108, U 109, U 110, U 111, U 112, U 113, U 114, U 115, U 116, U 117, U 118, U 119, U 120, U 121, U 122, U 123, U 124, U 125, U 126, U 127, U 128, U 129, U 130, U 131, U 132, U 133, U 134, U 135, U 136, U 137, U 138, U 139, U 140, U 141, U 142, U 143, U 144, U 145, U 146, U 147, U 148, U 149, U 150, U 151, U 152, U 153, U 154, U 155, U 156, U 157, U 158, U 159, U 160, U 161, U 162, U 163, U 164, U 165, U 166, U 167, U 168, U 169, U 170, U 171, U 172, U 173, U 174, U 175, U 176, U 177, U 178, U 179, U 180, U 181, U 182, U 183, U 184, U 185, U 186, U 187], []⟩) (by kernel_rfl)
      exact key U
    · rw [hb] at hF
      refine Og.st_same (.bool true) hF rfl rfl (by decide) (by kernel_rfl) ?_
      clear hF a; intro a hF
      refine Og.st_pass hF (by kernel_rfl) rfl (by decide) ?_
      clear hF a; intro a hF
      refine Og.st_pass hF (by kernel_rfl) rfl (by decide) ?_
      clear hF a; intro a hF
      refine Og.st_pass hF (by kernel_rfl) rfl (by decide) ?_
      clear hF a; intro a hF
      refine Og.st_pass hF (by kernel_rfl) rfl (by decide) ?_
      clear hF a; intro a hF
      refine Og.st_same (.bool true) hF rfl rfl (by decide) (by kernel_rfl) ?_
      clear hF a; intro a hF
      refine wpList_nil ?_
      obtain ⟨U, rfl⟩ := Og.Fr.lit_ex hF (fun U => ⟨#[.slice q1 np c1, .slice q2 nf c2, U 2, U 3, .bool false, .pointer (some ⟨r, 0, none⟩), .int .i64 i, U 7, U 8, U 9, U 10, U 11, U 12, U 13, U 14, U 15, U 16, U 17, U 18, U 19, U 20, U 21, U 22, U 23, U 24, U 25, U 26, U 27, U 28, U 29, U 30, U 31, U 32, U 33, U 34, U 35, U 36, U 37, U 38, U 39, U 40, U 41, U 42, U 43, .bool true, U 45, U 46, U 47, U 48, U 49, U 50, U 51, U 52, U 53, U 54, U 55, U 56, U 57, U 58, U 59, U 60, U 61, U 62, U 63, U 64, U 65, U 66, U 67, U 68, U 69, U 70, U 71, U 72, U 73, U 74, U 75, U 76, U 77, U 78, U 79, U 80, U 81, U 82, U 83, U 84, U 85, U 86, U 87, U 88, U 89, U 90, U 91, U 92, U 93, U 94, U 95, U 96, U 97, U 98, U 99, U 100, U 101, U 102, U 103, U 104, U 105, U 106, U 107, U 108, U 109, U 110, U 111, U 112, U 113, U 114, U 115, U 116, U 117, U 118, U 119, U 120, U 121, U 122, U 123, U 124, U 125, U 126, U 127, U 128, U 129, U 130, U 131, U 132, U 133, U 134, U 135, U 136, U 137, U 138, U 139, U 140, U 141, U 142, U 143, U 144, U 145, U 146, U 147, U 148, U 149, U 150, U 151, U 152, U 153, U 154, U 155, U 156, U 157, U 158, U 159, U 160, U 161, U 162, U 163, U 164, U 165, U 166, U 167, U 168, U 169, U 170, U 171, U 172, U 173, U 174, U 175, U 176, U 177, U 178, U 179, U 180, U 181, U 182, U 183, U 184, U 185, U 186, U 187], []⟩) (by kernel_rfl)
      exact key U
  · clear hBk h00 hb02 hB2 w2
    rintro a w1 ⟨own, Lf, Lk, ⟨U, rfl⟩, hBk, hLk, h0, hb, hBw⟩
    have h1 : ¬ (n : Int) < (np : Int) := by omega
    have h2 : ¬ (n : Int) < (nf : Int) := by omega
    go_wp2_with fail
    go_ret
    exact ⟨rfl, by rw [← hB]; exact hb⟩
end Go.Proofs.YtbgfoobcpacfeaaDoor
