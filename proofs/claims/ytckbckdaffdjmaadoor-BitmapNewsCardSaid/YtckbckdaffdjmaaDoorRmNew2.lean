/- The document's bitmap: New, From; bits as words: pack, Upper, Words, Summary. -/
import Derived.Test.YtckbckdaffdjmaaDoorRmNew
namespace Go.Proofs.YtckbckdaffdjmaaDoor
open Go.RowKit
set_option maxRecDepth 100000
set_option linter.unusedVariables false
set_option linter.unusedSimpArgs false

set_option maxHeartbeats 4000000 in
theorem rnew_err {w : World} {n : Int} (hn : (Lit.int .i64 n).wf = true) (h : n < 1 ∨ 65536 < n) : Pur Tryd.prog 57 #[.int .i64 n] w (.tuple #[.pointer none, .int .i64 1]) := by
  unfold Pur
  go_enter Tryd.func57, Tryd.ntmps57
  by_cases e : n < 1
  · go_wp2_with fail
    refine bodyPost_ret (results_tmp2 rfl _ _ _) rfl ?_
    exact ⟨rfl, Below.refl _ _⟩
  · have e2 : 65536 < n := by omega
    go_wp2_with fail
    refine bodyPost_ret (results_tmp2 rfl _ _ _) rfl ?_
    exact ⟨rfl, Below.refl _ _⟩
set_option maxHeartbeats 4000000 in
theorem rnew_calls {w : World} {n : Nat} (h1 : 1 ≤ n) (h2 : n ≤ 65536) : Calls Tryd.prog 57 #[.int .i64 n] w fun e w' => ∃ r bb, e = .returned (.tuple #[.pointer (some ⟨r, 0, none⟩), .int .i64 0]) ∧ RM w' r bb (List.replicate n false) ∧ w.heap.size ≤ r ∧ w.heap.size ≤ bb ∧ Below w.heap.size w w' := by
  have hm := bo_made n (by omega)
  go_enter Tryd.func57, Tryd.ntmps57
  go_wp2_with fail
  refine bodyPost_ret (results_tmp2 rfl _ _ _) rfl ?_
  refine ⟨w.heap.size + 1, w.heap.size, rfl, ⟨?_, ?_, by omega, by simpa using h2⟩, by omega, Nat.le_refl _, below_alloc2 _ _ _⟩
  · exact (heap_new _ _ _ (by simp)).trans (by simp)
  · exact (heap_old _ _ _ (by simp)).trans ((heap_new _ _ _ rfl).trans (by rw [bo_cells]))
set_option maxHeartbeats 4000000 in
theorem rfrom_err1 {w : World} {n : Int} (hn : (Lit.int .i64 n).wf = true) (v : Value) (h : n < 1 ∨ 65536 < n) : Pur Tryd.prog 55 #[.int .i64 n, v] w (.tuple #[.pointer none, .int .i64 1]) := by
  unfold Pur
  go_enter Tryd.func55, Tryd.ntmps55
  by_cases e : n < 1
  · go_wp2_with fail
    refine bodyPost_ret (results_tmp2 rfl _ _ _) rfl ?_
    exact ⟨rfl, Below.refl _ _⟩
  · have e2 : 65536 < n := by omega
    go_wp2_with fail
    refine bodyPost_ret (results_tmp2 rfl _ _ _) rfl ?_
    exact ⟨rfl, Below.refl _ _⟩
set_option maxHeartbeats 4000000 in
theorem rfrom_err2 {w : World} {n : Nat} (h1 : 1 ≤ n) (h2 : n ≤ 65536) {v : Value} {V : List UInt64} (h : RU w v V) (he : Bm.validE n V ≠ 0) : Pur Tryd.prog 55 #[.int .i64 n, v] w (.tuple #[.pointer none, .int .i64 (Bm.validE n V : Nat)]) := by
  unfold Pur
  have he' : (((Bm.validE n V : Nat) : Int) != 0) = true := bne_iff_ne.2 fun e => he (Int.ofNat_inj.1 e)
  have hv := listed_calls h1 h2 h
  clear h he
  go_enter Tryd.func55, Tryd.ntmps55
  go_wp2_with (first | (go_at_call 91; refine hv.out.mono ?_; rintro e w2 ⟨rfl, hb2⟩) | fail)
  refine bodyPost_ret (results_tmp2 rfl _ _ _) rfl ?_
  exact ⟨rfl, hb2⟩
set_option maxHeartbeats 4000000 in
theorem rfrom_calls {w : World} {n : Nat} {v : Value} {V : List UInt64} (h : RU w v V) (hok : Bm.Ok n V) :
    Calls Tryd.prog 55 #[.int .i64 n, v] w fun e w' => ∃ r bb, e = .returned (.tuple #[.pointer (some ⟨r, 0, none⟩), .int .i64 0]) ∧ RM w' r bb (Bm.bools n V) ∧ w.heap.size ≤ r ∧ w.heap.size ≤ bb ∧ Below w.heap.size w w' := by
  have h1 := hok.pos
  have h2 := hok.max
  have hlen := hok.len
  have hv := listed_calls h1 h2 h
  rw [Bm.valid_of_ok hok] at hv
  have H := Lib.hid h
  have HL := Lib.hid hlen
  have HO := Lib.hid hok
  clear h hlen hok
  go_enter Tryd.func55, Tryd.ntmps55
  go_wp2_with (first | (go_at_call 91; refine hv.out.mono ?_; rintro e w1 ⟨rfl, hb1⟩; have hbo := rbools_calls (H.out.below hb1) h2 HL.out) | (go_at_call 92; refine hbo.mono ?_; rintro e w2 ⟨g, rfl, hrow, hg, hb2⟩) | fail)
  refine bodyPost_ret (results_tmp2 rfl _ _ _) rfl ?_
  have hb3 := hb1.trans (hb2.mono hb1.size)
  have hs := hb1.size
  have hlt := heap_lt hrow
  refine ⟨w2.heap.size, g, rfl, ⟨?_, ?_, by omega, by rw [Bm.bools_length]; exact h2⟩, hb3.size, by omega, hb3.alloc hb3.size _⟩
  · rw [Bm.bools_length]; exact heap_new _ _ _ rfl
  · exact (heap_old _ _ _ hlt).trans hrow
theorem add_one64 {x r : Nat} (hr : r < 64) (h : x + 2 ^ r < 18446744073709551616) : IntKind.u64.wrap ((x : Int) + IntKind.u64.wrap ((2 : Int) ^ r)) = ((x + 2 ^ r : Nat) : Int) := by
  rw [shl_one hr, ← Int.natCast_add]; exact wrap_nat h
set_option maxHeartbeats 4000000 in
theorem pack_calls {w : World} {bb : Nat} {bs : List Bool} (h : Rw w bb 4 (bs.map Value.bool)) (hmax : bs.length ≤ 65536) :
    Calls Tryd.prog 95 #[.slice (some ⟨bb, 0, none⟩) bs.length bs.length] w fun e w' => ∃ v, e = .returned v ∧ NewU w w' v (Bm.pack bs) := by
  have hrm : Bm.room bs.length ≤ 1024 := by unfold Bm.room; omega
  have hlc := length_calls (w := w) (n := bs.length) (by omega)
  have hm := uy_made (Bm.room bs.length) (by omega)
  have H := Lib.hid h
  have lb := heap_lt h
  unfold NewU
  rw [Bm.pack_length]
  have hall := Lib.hid (Bm.packTo_all bs)
  obtain ⟨L, hL⟩ : ∃ L, L = bs.length := ⟨_, rfl⟩
  have HL := Lib.hid hL
  rw [← hL] at hrm hlc hm hmax ⊢
  clear h hL
  go_enter Tryd.func95, Tryd.ntmps95
  go_wp2_with (first | (go_at_call 107; refine hlc.out.mono ?_; rintro e w1 ⟨rfl, hb1⟩) | fail)
  have hs1 := hb1.size
  refine wp_loop_count (fun i a w' => (∃ U : Nat → Value, a = ⟨#[.slice (some ⟨bb, 0, none⟩) L L, U 1, U 2, .slice (some ⟨w1.heap.size, 0, none⟩) (Bm.room L) (Bm.room L), .int .i64 i, U 5, U 6, U 7, U 8, U 9, U 10, U 11, U 12, U 13, U 14, U 15, U 16, U 17, U 18, U 19, U 20, U 21, U 22, U 23, U 24, U 25, U 26, U 27, U 28, U 29, U 30, U 31, U 32, U 33], []⟩) ∧ Rw w' w1.heap.size 58 ((Bm.packTo i bs).map uv) ∧ Below w.heap.size w w') L ⟨exU (fun U => ⟨#[.slice (some ⟨bb, 0, none⟩) L L, U 1, U 2, .slice (some ⟨w1.heap.size, 0, none⟩) (Bm.room L) (Bm.room L), .int .i64 0, U 5, U 6, U 7, U 8, U 9, U 10, U 11, U 12, U 13, U 14, U 15, U 16, U 17, U 18, U 19, U 20, U 21, U 22, U 23, U 24, U 25, U 26, U 27, U 28, U 29, U 30, U 31, U 32, U 33], []⟩) rfl, by rw [Bm.packTo_zero, ← HL.out]; exact (heap_new _ _ _ rfl).trans (by rw [made_cells]), hb1.alloc hs1 _⟩ ?_ ?_
  · rintro i a w' hi ⟨⟨U, rfl⟩, hrow, hbi⟩
    have hi2 : i < bs.length := by rw [← HL.out]; exact hi
    have hq := Bm.room_lt hi
    obtain ⟨b, hb⟩ : ∃ b, bs[i]? = some b := ⟨_, List.getElem?_eq_getElem hi2⟩
    have hcb := ((bcell hbi).1 _ _ lb).trans (H.out.cell (i := i) (v := .bool b) (by simp [hb]))
    obtain ⟨x, hx⟩ : ∃ x, (Bm.packTo i bs)[i / 64]? = some x := ⟨_, List.getElem?_eq_getElem (by rw [Bm.packTo_length, ← HL.out]; exact hq)⟩
    have hc0 := hrow.cell (i := i / 64) (v := uv x) (by simp [hx])
    have hf0 := hrow.frozen (i / 64)
    have hn := Bm.packTo_next hb hx
    have hi' : (i : Int) < (L : Int) := by exact_mod_cast hi
    have hi0 : (0 : Int) ≤ (i : Int) := Int.natCast_nonneg i
    have hq0 : 0 ≤ (i : Int) / 64 := by omega
    have hq1 : (i : Int) / 64 < ((Bm.room L : Nat) : Int) := by omega
    have hq2 : ((i : Int) / 64).toNat = i / 64 := by omega
    cases b with
    | false =>
      have hsk := Bm.packTo_skip hb
      rw [← hsk] at hrow
      have HS := Lib.hid hrow
      have HB := Lib.hid hbi
      clear hm hlc hx hsk hrow hbi hb1 hb hn hi2 hq
      go_wp2_with fail
      exact ⟨exU (fun U => ⟨#[.slice (some ⟨bb, 0, none⟩) L L, U 1, U 2, .slice (some ⟨w1.heap.size, 0, none⟩) (Bm.room L) (Bm.room L), .int .i64 (i + 1 : Nat), U 5, U 6, U 7, U 8, U 9, U 10, U 11, U 12, U 13, U 14, U 15, U 16, U 17, U 18, U 19, U 20, U 21, U 22, U 23, U 24, U 25, U 26, U 27, U 28, U 29, U 30, U 31, U 32, U 33], []⟩) rfl, HS.out, HB.out⟩
    | true =>
      simp only [if_true] at hn
      have hv := add_one64 (x := x.toNat) (r := i % 64) (Nat.mod_lt _ (by decide)) hn.1
      have hset := hrow.set (i / 64) (.int .u64 ((x.toNat + 2 ^ (i % 64) : Nat) : Int))
      have hbe : Below w.heap.size w (w'.setCell ⟨w1.heap.size, i / 64, none⟩ (.int .u64 ((x.toNat + 2 ^ (i % 64) : Nat) : Int))) := hbi.setCell (p := ⟨w1.heap.size, i / 64, none⟩) hs1 _
      have e1 : ((Bm.packTo i bs).map uv).set (i / 64) (.int .u64 ((x.toNat + 2 ^ (i % 64) : Nat) : Int)) = (Bm.packTo (i + 1) bs).map uv := by
        rw [hn.2, List.map_set, uv, Bm.toNat_of hn.1]
      rw [e1] at hset
      have HS := Lib.hid hset
      have HB := Lib.hid hbe
      clear hm hlc hx hrow hbi hb1 hb hn hi2 hq hset hbe e1
      rw [show ((x.toNat + 2 ^ (i % 64) : Nat) : Int) = (x.toNat : Int) + 2 ^ (i % 64) by simp] at HS HB
      go_wp2_with fail
      exact ⟨exU (fun U => ⟨#[.slice (some ⟨bb, 0, none⟩) L L, U 1, U 2, .slice (some ⟨w1.heap.size, 0, none⟩) (Bm.room L) (Bm.room L), .int .i64 (i + 1 : Nat), U 5, U 6, U 7, U 8, U 9, U 10, U 11, U 12, U 13, U 14, U 15, U 16, U 17, U 18, U 19, U 20, U 21, U 22, U 23, U 24, U 25, U 26, U 27, U 28, U 29, U 30, U 31, U 32, U 33], []⟩) rfl, HS.out, HB.out⟩
  · rintro a w' ⟨⟨U, rfl⟩, hrow, hbi⟩
    have ha := hall.out
    rw [← HL.out] at ha
    rw [ha] at hrow
    have hs2 := hbi.size
    have HR := Lib.hid hrow
    clear hm hlc ha hrow
    go_wp2_with fail
    go_ret
    exact ⟨_, rfl, w1.heap.size, rfl, HR.out, hs1, hbi⟩
end Go.Proofs.YtckbckdaffdjmaaDoor
