/- The document's own reader: the whole of a packet. (Printed by wip/w7gen/mkrfrest.py.) -/
import Derived.Test.YtbgfoobcpacfeaaDoorPk8
import Derived.Test.YtbgfoobcpacfeaaDoorRfRd
import Derived.Deep.Cut
namespace Go.Proofs.YtbgfoobcpacfeaaDoor
open Go.RowKit
set_option maxRecDepth 100000
set_option linter.unusedVariables false
set_option linter.unusedSimpArgs false

namespace Wi
theorem rLong_lt (l : List UInt8) (n : Nat) : (rLong l n).1 < 18446744073709551616 := by
  unfold rLong
  split
  · have := unbe_take_lt (l.drop n) 8
    simpa using this
  · exact Nat.le_of_ble_eq_true rfl
theorem rLong_in {l : List UInt8} {n : Nat} (h : n + 8 ≤ l.length) : rLong l n = (unbe ((l.drop n).take 8), true, n + 8) := by unfold rLong; rw [if_pos h]
theorem rLong_out {l : List UInt8} {n : Nat} (h : ¬ n + 8 ≤ l.length) : rLong l n = (0, false, l.length) := by unfold rLong; rw [if_neg h]
theorem rLong_pl (l : List UInt8) (n : Nat) : (rLong l n).2.2 = if n + 8 ≤ l.length then n + 8 else l.length := by unfold rLong; split <;> rfl
theorem rLong_ok (l : List UInt8) (n : Nat) : (rLong l n).2.1 = decide (n + 8 ≤ l.length) := by unfold rLong; split <;> simp [*]
theorem rG_res (c : Nat) (q : Pk) (l : List UInt8) (n : Nat) (hn : n ≤ l.length) : (if (l.drop n).length < 32 then Res.bad [] else rS c { q with g1 := unbe ((l.drop n).take 8), g2 := unbe (((l.drop n).drop 8).take 8), g3 := unbe (((l.drop n).drop 16).take 8), g4 := unbe (((l.drop n).drop 24).take 8) } ((l.drop n).drop 32)) =
    if (rLong l (rPl l n 3)).2.1 then rS c { q with g1 := (rLong l (rPl l n 0)).1, g2 := (rLong l (rPl l n 1)).1, g3 := (rLong l (rPl l n 2)).1, g4 := (rLong l (rPl l n 3)).1 } (l.drop (rPl l n 4)) else .bad (l.drop (rPl l n 4)) := by
  rw [List.length_drop]
  by_cases h : l.length - n < 32
  · rw [if_pos h]
    have e : ∀ k, rPl l n k = if n + 8 * k ≤ l.length then n + 8 * k else l.length := by
      intro k
      induction k with
      | zero => rw [rPl, if_pos (by omega)]; rfl
      | succ k ih =>
        rw [rPl, rLong_pl, ih]
        repeat' split
        all_goals omega
    rw [rLong_ok, e 3, e 4, if_neg (show ¬ n + 8 * 4 ≤ l.length by omega), List.drop_length]
    rw [if_neg]
    simp only [decide_eq_true_eq]
    split <;> omega
  · have e0 : rPl l n 0 = n := rfl
    have e1 : rPl l n 1 = n + 8 := by rw [rPl, e0, rLong_in (by omega)]
    have e2 : rPl l n 2 = n + 16 := by rw [rPl, e1, rLong_in (by omega)]
    have e3 : rPl l n 3 = n + 24 := by rw [rPl, e2, rLong_in (by omega)]
    have e4 : rPl l n 4 = n + 32 := by rw [rPl, e3, rLong_in (by omega)]
    rw [if_neg h, e4, e3, e2, e1, e0, rLong_in (show n + 24 + 8 ≤ l.length by omega), rLong_in (show n + 16 + 8 ≤ l.length by omega), rLong_in (show n + 8 + 8 ≤ l.length by omega), rLong_in (show n + 8 ≤ l.length by omega)]
    simp only [List.drop_drop, if_true]
end Wi
theorem grown_any {w w1 w2 : World} {x y : Option Nat} (h : w.grownBy w1 x) (hg : w1.grownBy w2 y) (hk : ∀ k, y = some k → w.heap.size ≤ k) : w.grownBy w2 x :=
  ⟨hg.os.trans h.os, hg.tape.trans h.tape, hg.output.trans h.output, Nat.le_trans h.size hg.size, fun i hi hne => (hg.block i (Nat.lt_of_lt_of_le hi h.size) (fun e => by have := hk i e.symm; omega)).trans (h.block i hi hne)⟩
section
variable {w w' : World} {r c at_ : Nat} {l : List UInt8} {bs : Value} {q : Wi.Pk}
theorem RSt.fin (h : RSt w r bs l.length c at_ q w') (hr : r < w.heap.size) : PkAt (w'.setCells w.heap.size 0 (pkL q (.slice none 0 0))) w.heap.size q (.slice none 0 0) ∧ RRd (w'.setCells w.heap.size 0 (pkL q (.slice none 0 0))) r bs at_ ∧ w.grownBy (w'.setCells w.heap.size 0 (pkL q (.slice none 0 0))) (some r) :=
  have hg := setCells_grown w' w.heap.size 0 (pkL q (.slice none 0 0))
  ⟨h.z.store 0 _ q _ (set_all h.ok (Wi.Pk.zero_ok 0)), blk_grown h.rd hg (fun e => by injection e; omega), grown_own h.g hg (Nat.le_refl _)⟩
theorem RSt.len_drop (h : RSt w r bs l.length c at_ q w') : l.length - (l.drop at_).length = at_ := by
  have := h.le
  rw [List.length_drop]; omega
end
theorem build_none {ρ : Operand → Value} {o : Oper} (ho : o.op = .buildSlice 32 0 #[]) (w : World) : (execOp ρ o).run Tryd.prog w = .ok (.value (.slice (some ⟨w.heap.size, 0, none⟩) 0 0)) (w.alloc (.cells #[] 5)) := by
  unfold execOp
  rw [ho]
  kernel_rfl

set_option maxHeartbeats 16000000 in
theorem rrest_calls {w : World} {r g o cp at_ c : Nat} {l : List UInt8} (hR : RRd w r (.slice (some ⟨g, o, none⟩) l.length cp) at_) (hr : RB w (.slice (some ⟨g, o, none⟩) l.length cp) l) (hgr : g ≠ r) (hat : at_ ≤ l.length) (hcc : l.length ≤ cp) (hcm : cp ≤ maxLen) (hl : l.length ≤ 140737488355328)
    (hc : c < 26) (hC : Cars w) (h5 : Fives w) (hr1 : r ≠ 1) (hr2 : r ≠ 2) :
    Calls Tryd.prog 48 #[.pointer (some ⟨r, 0, none⟩), .int .i64 c] w (RRestPost w r (.slice (some ⟨g, o, none⟩) l.length cp) l.length (Wi.rRest c (l.drop at_))) := by
  have hrl := hR.lt
  obtain ⟨res, hres⟩ : ∃ res, res = Wi.rRest c (l.drop at_) := ⟨_, rfl⟩
  rw [← hres]
  have Hres := Lib.hid hres
  have Hcars := Lib.hid (fun (w' : World) (hg : w.grownBy w' (some r)) => (Lies.grown hC hg (fun e => hr2 (by injection e)) : Cars w'))
  have Hfive := Lib.hid (fun (w' : World) (hg : w.grownBy w' (some r)) => (Lies.grown h5 hg (fun e => hr1 (by injection e)) : Fives w'))
  have Hrb := Lib.hid (fun (w' : World) (hg : w.grownBy w' (some r)) => hr.grown hg (fun _ g' e e' => by cases e; exact hgr (by injection e' with e'; exact e'.symm)))
  have H32 := Lib.hid (fun (w2 : World) (h2 : Cars w2) => rhas_calls (w := w2) h2 c 32 hc (by decide) (by decide))
  have H64 := Lib.hid (fun (w2 : World) (h2 : Cars w2) => rhas_calls (w := w2) h2 c 64 hc (by decide) (by decide))
  have H128 := Lib.hid (fun (w2 : World) (h2 : Cars w2) => rhas_calls (w := w2) h2 c 128 hc (by decide) (by decide))
  have Hgl := Lib.hid (fun (hl0 : l ≠ []) => (hr.block hl0 g rfl : g < w.heap.size))
  clear hres hC h5 hr
  go_enter Tryd.func48, Tryd.ntmps48
  go_upto_region 0 with fail
  rename_i hnext
  refine wp_region_lit ?_
  refine Og.st_start (n := 139) rfl fun a hF => ?_
  refine Og.st_val (w' := w.alloc (.cells (pkL (Wi.Pk.zero 0) (.slice none 0 0)).toArray 34)) (.pointer (some ⟨w.heap.size, 0, none⟩)) hF rfl rfl (by decide) (alloc_pk rfl w) ?_
  clear hF a; intro a hF
  have hz1 : PkAt (w.alloc (.cells (pkL (Wi.Pk.zero 0) (.slice none 0 0)).toArray 34)) w.heap.size (Wi.Pk.zero 0) (.slice none 0 0) := heap_new w _ _ rfl
  have hb1 := below_alloc1 w (.cells (pkL (Wi.Pk.zero 0) (.slice none 0 0)).toArray 34)
  have hs1 : (w.alloc (.cells (pkL (Wi.Pk.zero 0) (.slice none 0 0)).toArray 34)).heap.size = w.heap.size + 1 := by simp
  generalize w.alloc (.cells (pkL (Wi.Pk.zero 0) (.slice none 0 0)).toArray 34) = w1 at *
  refine Og.st_same (.bool false) hF rfl rfl (by decide) (by kernel_rfl) ?_
  clear hF a; intro a hF
  refine wpList_nil ?_
  obtain ⟨U, rfl⟩ := Og.Fr.lit_ex hF (fun U => ⟨#[.pointer (some ⟨r, 0, none⟩), .int .i64 c, U 2, U 3, .pointer (some ⟨w.heap.size, 0, none⟩), .bool false, U 6, U 7, U 8, U 9, U 10, U 11, U 12, U 13, U 14, U 15, U 16, U 17, U 18, U 19, U 20, U 21, U 22, U 23, U 24, U 25, U 26, U 27, U 28, U 29, U 30, U 31, U 32, U 33, U 34, U 35, U 36, U 37, U 38, U 39, U 40, U 41, U 42, U 43, U 44, U 45, U 46, U 47, U 48, U 49, U 50, U 51, U 52, U 53, U 54, U 55, U 56, U 57, U 58, U 59, U 60, U 61, U 62, U 63, U 64, U 65, U 66, U 67, U 68, U 69, U 70, U 71, U 72, U 73, U 74, U 75, U 76, U 77, U 78, U 79, U 80, U 81, U 82, U 83, U 84, U 85, U 86, U 87, U 88, U 89, U 90, U 91, U 92, U 93, U 94, U 95, U 96, U 97, U 98, U 99, U 100, U 101, U 102, U 103, U 104, U 105, U 106, U 107, U 108, U 109, U 110, U 111, U 112, U 113, U 114, U 115, U 116, U 117, U 118, U 119, U 120, U 121, U 122, U 123, U 124, U 125, U 126, U 127, U 128, U 129, U 130, U 131, U 132, U 133, U 134, U 135, U 136, U 137, U 138], []⟩) (by kernel_rfl)
  clear hF
  refine hnext _ _ ?_
  clear hnext
  go_upto_region 1 with fail
  rename_i hnext
  refine wp_region_lit ?_
  refine Og.st_start (n := 139) rfl fun a hF => ?_
  refine Og.st_same (.int .i64 c) hF rfl rfl (by decide) (by kernel_rfl) ?_
  clear hF a; intro a hF
  refine Og.st_same (.agg (pkL (Wi.Pk.zero (c : Nat)) (.slice none 0 0)).toArray) hF rfl rfl (by decide) (build_cmd rfl rfl w1) ?_
  clear hF a; intro a hF
  refine Og.st_val (w' := w1.alloc (.cells (pkL (Wi.Pk.zero 0) (.slice none 0 0)).toArray 34)) (.pointer (some ⟨w1.heap.size, 0, none⟩)) hF rfl rfl (by decide) (alloc_pk rfl w1) ?_
  clear hF a; intro a hF
  have hz2 : PkAt (w1.alloc (.cells (pkL (Wi.Pk.zero 0) (.slice none 0 0)).toArray 34)) w1.heap.size (Wi.Pk.zero 0) (.slice none 0 0) := heap_new w1 _ _ rfl
  refine Og.st_skip (w' := (w1.alloc (.cells (pkL (Wi.Pk.zero 0) (.slice none 0 0)).toArray 34)).setCells w1.heap.size 0 (pkL (Wi.Pk.zero (c : Nat)) (.slice none 0 0))) hF rfl rfl
    (exec_store (o := 0) (vs := pkL (Wi.Pk.zero (c : Nat)) (.slice none 0 0)) (cs := pkL (Wi.Pk.zero 0) (.slice none 0 0)) rfl rfl rfl hz2 (by rw [pkL_length (Wi.Pk.zero_ok 0), pkL_length (Wi.Pk.zero_ok _)]; decide) (by rw [pkL_length (Wi.Pk.zero_ok _)]; exact pk_i) (pkL_one (Wi.Pk.zero _) _ rfl)) ?_
  clear hF a; intro a hF
  have hP := PkAt.store hz2 0 _ (Wi.Pk.zero (c : Nat)) (.slice none 0 0) (set_all (Wi.Pk.zero_ok _) (Wi.Pk.zero_ok 0))
  have hb2 : Below w1.heap.size w1 ((w1.alloc (.cells (pkL (Wi.Pk.zero 0) (.slice none 0 0)).toArray 34)).setCells w1.heap.size 0 (pkL (Wi.Pk.zero (c : Nat)) (.slice none 0 0))) :=
    (below_alloc1 w1 _).grown (setCells_grown _ w1.heap.size 0 _) (by simp) (fun k hk => by injection hk with hk; omega)
  generalize (w1.alloc (.cells (pkL (Wi.Pk.zero 0) (.slice none 0 0)).toArray 34)).setCells w1.heap.size 0 (pkL (Wi.Pk.zero (c : Nat)) (.slice none 0 0)) = w2 at *
  have hb02 := hb1.trans (hb2.mono (by omega))
  have hS : RSt w r (.slice (some ⟨g, o, none⟩) l.length cp) l.length c at_ (Wi.Pk.zero (c : Nat)) w2 := ⟨Wi.Pk.zero_ok _, rfl, rfl, by rw [← hs1]; exact hP, hz1.below hb2, hR.below hb02, hat, below_grown hb02⟩
  rw [hs1] at hF
  refine wpList_nil ?_
  obtain ⟨U, rfl⟩ := Og.Fr.lit_ex hF (fun U => ⟨#[.pointer (some ⟨r, 0, none⟩), .int .i64 c, U 2, U 3, .pointer (some ⟨w.heap.size, 0, none⟩), .bool false, .pointer (some ⟨w.heap.size + 1, 0, none⟩), U 7, U 8, U 9, U 10, U 11, U 12, U 13, U 14, U 15, U 16, U 17, U 18, U 19, U 20, U 21, U 22, U 23, U 24, U 25, U 26, U 27, U 28, U 29, U 30, U 31, U 32, U 33, U 34, U 35, U 36, U 37, U 38, U 39, U 40, U 41, U 42, U 43, U 44, U 45, U 46, U 47, U 48, U 49, U 50, U 51, U 52, U 53, U 54, U 55, U 56, U 57, U 58, U 59, U 60, U 61, U 62, U 63, U 64, U 65, U 66, U 67, U 68, U 69, U 70, U 71, U 72, U 73, U 74, U 75, U 76, U 77, U 78, U 79, U 80, U 81, U 82, U 83, U 84, U 85, U 86, U 87, U 88, U 89, U 90, U 91, U 92, U 93, U 94, U 95, U 96, U 97, U 98, U 99, U 100, U 101, U 102, U 103, U 104, U 105, U 106, U 107, U 108, U 109, U 110, U 111, U 112, U 113, U 114, U 115, U 116, U 117, U 118, U 119, U 120, U 121, U 122, U 123, U 124, U 125, U 126, U 127, U 128, U 129, U 130, U 131, U 132, U 133, U 134, U 135, U 136, U 137, U 138], []⟩) (by kernel_rfl)
  clear hF hP hb1 hb2 hz1 hz2 hs1 hb02 hR
  refine hnext _ _ ?_
  clear hnext w1
  go_wp2_with fail
  refine wp_loop_count (RRestI w r (.slice (some ⟨g, o, none⟩) l.length cp) l c res) 5 ⟨Wi.Pk.zero (c : Nat), at_, exU (fun U => ⟨#[.pointer (some ⟨r, 0, none⟩), .int .i64 c, U 2, U 3, .pointer (some ⟨w.heap.size, 0, none⟩), .bool false, .pointer (some ⟨w.heap.size + 1, 0, none⟩), .int .i64 0, U 8, U 9, U 10, U 11, U 12, U 13, U 14, U 15, U 16, U 17, U 18, U 19, U 20, U 21, U 22, U 23, U 24, U 25, U 26, U 27, U 28, U 29, U 30, U 31, U 32, U 33, U 34, U 35, U 36, U 37, U 38, U 39, U 40, U 41, U 42, U 43, U 44, U 45, U 46, U 47, U 48, U 49, U 50, U 51, U 52, U 53, U 54, U 55, U 56, U 57, U 58, U 59, U 60, U 61, U 62, U 63, U 64, U 65, U 66, U 67, U 68, U 69, U 70, U 71, U 72, U 73, U 74, U 75, U 76, U 77, U 78, U 79, U 80, U 81, U 82, U 83, U 84, U 85, U 86, U 87, U 88, U 89, U 90, U 91, U 92, U 93, U 94, U 95, U 96, U 97, U 98, U 99, U 100, U 101, U 102, U 103, U 104, U 105, U 106, U 107, U 108, U 109, U 110, U 111, U 112, U 113, U 114, U 115, U 116, U 117, U 118, U 119, U 120, U 121, U 122, U 123, U 124, U 125, U 126, U 127, U 128, U 129, U 130, U 131, U 132, U 133, U 134, U 135, U 136, U 137, U 138], []⟩) rfl, hS, Hres.out⟩ ?_ ?_
  · clear hS Hres hat w2 at_
    rintro i a w' hi ⟨q, at_, ⟨U, rfl⟩, hS, hq⟩
    have hi0 : (0 : Int) ≤ (i : Int) := Int.natCast_nonneg i
    have hi5 : (i : Int) < 5 := by omega
    have hw6 : IntKind.i64.wrap ((i : Int) + 1) = (i : Int) + 1 := IntWalk.i64_in _ ⟨by omega, by omega⟩
    have h5w : Fives w' := Hfive.out w' hS.g
    have hcell := h5w.at_ i hi
    have hg1 := h5w.1
    rw [Wi.rN_at c i hi] at hq
    unfold Wi.rF at hq
    have hhas := fun (w2 : World) (h2 : Cars w2) => rhas_calls (w := w2) h2 c (2 ^ i) hc (Nat.pow_pos (by decide)) (by
      have := Nat.pow_le_pow_right (n := 2) (by decide) (show i ≤ 7 by omega)
      simpa using this)
    have Hi := Lib.hid hi
    have hlay := fun (w2 : World) (q : Wi.Pk) (hq : q.Ok) (x : Nat) (hx : x < 4294967296) => rlay_calls (w := w2) (pv := .slice none 0 0) hq rfl i hi x hx
    generalize hF0 : 2 ^ i = F at *
    have Hhas := Lib.hid hhas
    have Hlay := Lib.hid hlay
    have Hq0 := Lib.hid hq
    clear hhas hF0 hi hlay hq h5w
    go_wp2_with fail
    refine (Hhas.out w' (Hcars.out w' hS.g)).out.mono ?_
    rintro e w2 ⟨rfl, hb2⟩
    replace hS := hS.below hb2
    clear hcell hg1 Hhas hb2
    cases hh : Wi.rHas c F
    · have hq := Hq0.out
      rw [hh] at hq
      have Hq := Lib.hid hq
      clear hq Hq0
      go_wp2_with fail
      exact ⟨q, at_, exU (fun U => ⟨#[.pointer (some ⟨r, 0, none⟩), .int .i64 c, U 2, U 3, .pointer (some ⟨w.heap.size, 0, none⟩), .bool false, .pointer (some ⟨w.heap.size + 1, 0, none⟩), .int .i64 (i + 1 : Nat), U 8, U 9, U 10, U 11, U 12, U 13, U 14, U 15, U 16, U 17, U 18, U 19, U 20, U 21, U 22, U 23, U 24, U 25, U 26, U 27, U 28, U 29, U 30, U 31, U 32, U 33, U 34, U 35, U 36, U 37, U 38, U 39, U 40, U 41, U 42, U 43, U 44, U 45, U 46, U 47, U 48, U 49, U 50, U 51, U 52, U 53, U 54, U 55, U 56, U 57, U 58, U 59, U 60, U 61, U 62, U 63, U 64, U 65, U 66, U 67, U 68, U 69, U 70, U 71, U 72, U 73, U 74, U 75, U 76, U 77, U 78, U 79, U 80, U 81, U 82, U 83, U 84, U 85, U 86, U 87, U 88, U 89, U 90, U 91, U 92, U 93, U 94, U 95, U 96, U 97, U 98, U 99, U 100, U 101, U 102, U 103, U 104, U 105, U 106, U 107, U 108, U 109, U 110, U 111, U 112, U 113, U 114, U 115, U 116, U 117, U 118, U 119, U 120, U 121, U 122, U 123, U 124, U 125, U 126, U 127, U 128, U 129, U 130, U 131, U 132, U 133, U 134, U 135, U 136, U 137, U 138], []⟩) rfl, hS, Hq.out⟩
    · have hq := Hq0.out
      rw [hh, if_pos rfl] at hq
      have Hq1 := Lib.hid hq
      clear hq Hq0
      go_upto_region 7 with fail
      rename_i hnext
      refine wp_region_lit ?_
      refine Og.st_start (n := 139) rfl fun a hF => ?_
      refine Og.st_same (.pointer (some ⟨r, 0, none⟩)) hF rfl rfl (by decide) (by kernel_rfl) ?_
      clear hF a; intro a hF
      refine Og.st_same (.int .i64 c) hF rfl rfl (by decide) (by kernel_rfl) ?_
      clear hF a; intro a hF
      refine Og.st_same (.int .i64 F) hF rfl rfl (by decide) (by kernel_rfl) ?_
      clear hF a; intro a hF
      refine Og.st_same (.agg (pkL q (.slice none 0 0)).toArray) hF rfl rfl (by decide) (Og.exec_load rfl (load_pk hS.p hS.ok)) ?_
      clear hF a; intro a hF
      have hsz := hS.size
      refine Og.st_call (f := 84) (args := #[.int .i64 c, .int .i64 F, .agg (pkL q (.slice none 0 0)).toArray]) hF rfl rfl (by decide) ((Og.exec_call rfl rnumbers_enter rfl _).trans (by kernel_rfl)) ((rnumbers_calls (c : Int) (F : Int) hS.ok).mono ?_)
      rintro e w3 ⟨sv, rfl, hsp, hsv, hb3⟩
      refine ⟨_, rfl, ?_⟩
      clear hF a; intro a hF
      replace hS := hS.below hb3
      have hsr : sv.ownBlock ≠ some r := fun e => by have := hsv r e; omega
      clear hb3
      refine Og.st_call (f := 90) (args := #[.pointer (some ⟨r, 0, none⟩), .int .i64 (4 : Nat), sv]) hF rfl rfl (by decide) ((Og.exec_call rfl rnumber_enter rfl _).trans (by kernel_rfl)) ((rnumber_calls (n := 4) hS.rd (Hrb.out _ hS.g) hgr hsp hsr hS.le hl (by decide)).mono ?_)
      intro e w4 hpost
      obtain ⟨x, t, rest, rfl, hR4, hg4, hqq⟩ := hpost.form
      refine ⟨_, rfl, ?_⟩
      clear hF a; intro a hF
      refine Og.st_same (.tuple #[.int .i64 (x : Nat), .bool t]) hF rfl rfl (by decide) (by kernel_rfl) ?_
      clear hF a; intro a hF
      refine Og.st_same (.int .i64 (x : Nat)) hF rfl rfl (by decide) (by kernel_rfl) ?_
      clear hF a; intro a hF
      refine Og.st_same (.bool t) hF rfl rfl (by decide) (by kernel_rfl) ?_
      clear hF a; intro a hF
      refine Og.st_same (.int .i64 (x : Nat)) hF rfl rfl (by decide) (by kernel_rfl) ?_
      clear hF a; intro a hF
      refine Og.st_same (.bool t) hF rfl rfl (by decide) (by kernel_rfl) ?_
      clear hF a; intro a hF
      replace hS := hS.read hrl hg4 hR4 (Nat.sub_le _ _)
      have hsuf : rest <:+ l.drop at_ := by
        have := Wi.rNum_suffix (Wi.rNumbers c F q) 4 0 (l.drop at_)
        rw [hqq] at this
        cases t <;> exact this
      have hdr := Wi.drop_of_suffix hsuf
      have hq := Hq1.out
      rw [hqq] at hq
      clear Hq1 hpost hsuf hR4 hg4
      refine wpList_nil ?_
      obtain ⟨U, rfl⟩ := Og.Fr.lit_ex hF (fun U => ⟨#[.pointer (some ⟨r, 0, none⟩), .int .i64 c, U 2, U 3, .pointer (some ⟨w.heap.size, 0, none⟩), .bool false, .pointer (some ⟨w.heap.size + 1, 0, none⟩), .int .i64 i, .int .i64 F, .int .i64 (x : Nat), .bool t, U 11, U 12, U 13, U 14, U 15, U 16, U 17, U 18, U 19, U 20, U 21, U 22, U 23, U 24, U 25, U 26, U 27, U 28, U 29, U 30, U 31, U 32, U 33, U 34, U 35, U 36, U 37, U 38, U 39, U 40, U 41, U 42, U 43, U 44, U 45, U 46, U 47, U 48, U 49, U 50, U 51, U 52, U 53, U 54, U 55, U 56, U 57, U 58, U 59, U 60, U 61, U 62, U 63, U 64, U 65, U 66, U 67, U 68, U 69, U 70, U 71, U 72, U 73, U 74, U 75, U 76, U 77, U 78, U 79, U 80, U 81, U 82, U 83, U 84, U 85, U 86, U 87, U 88, U 89, U 90, U 91, U 92, U 93, U 94, U 95, U 96, U 97, U 98, U 99, U 100, U 101, U 102, U 103, U 104, U 105, U 106, U 107, U 108, U 109, U 110, U 111, U 112, U 113, U 114, U 115, U 116, U 117, U 118, U 119, U 120, U 121, U 122, U 123, U 124, U 125, U 126, U 127, U 128, U 129, U 130, U 131, U 132, U 133, U 134, U 135, U 136, U 137, U 138], []⟩) (by kernel_rfl)
      clear hF
      refine hnext _ _ ?_
      clear hnext
      cases t
      · rw [if_neg (by decide), ← hdr] at hq
        have Hq := Lib.hid hq
        clear hq hqq hdr hsp hsv hsr
        go_upto_region 9 with fail
        rename_i hnext
        refine wp_region_lit ?_
        refine Og.st_start (n := 139) rfl fun a hF => ?_
        refine Og.st_same (.agg (pkL q (.slice none 0 0)).toArray) hF rfl rfl (by decide) (Og.exec_load rfl (load_pk hS.p hS.ok)) ?_
        clear hF a; intro a hF
        refine Og.st_skip (w' := _) hF rfl rfl (exec_store (o := 0) (vs := pkL q (.slice none 0 0)) (cs := pkL (Wi.Pk.zero 0) (.slice none 0 0)) rfl rfl rfl hS.z (by rw [pkL_length hS.ok, pkL_length (Wi.Pk.zero_ok 0)]; decide) (by rw [pkL_length hS.ok]; exact pk_i) (pkL_one q _ rfl)) ?_
        clear hF a; intro a hF
        have hfin := hS.fin hrl
        generalize World.setCells _ w.heap.size 0 (pkL q (.slice none 0 0)) = wf at *
        refine Og.st_same (.bool false) hF rfl rfl (by decide) (by kernel_rfl) ?_
        clear hF a; intro a hF
        refine wpList_nil ?_
        refine hnext _ _ (wp_ret ?_)
        (try simp only [Exit.inBlock, Exit.then, Exit.inLoop])
        refine bodyPost_ret (results_cellTmp rfl (hF.2.2 4) (by simpa [Instr.loadAt, Instr.sureAddr] using load_pk hfin.1 hS.ok)) hF.1 ?_
        rw [hF.2.2 5, Hq.out]
        exact ⟨q, rfl, hS.ok, by rw [hS.len_drop]; exact hfin.2.1, hfin.2.2⟩
      · rw [if_pos rfl] at hq hqq
        have hx : x < 4294967296 := by
          have := Wi.rNum_lt _ 4 0 0 _ x rest (by decide) hqq
          simpa using this
        have Hq := Lib.hid hq
        have Hdr := Lib.hid hdr
        have Hx := Lib.hid hx
        clear hq hqq hdr hsp hsv hsr hx
        go_upto_region 10 with fail
        rename_i hblk K7
        refine wp_region_lit ?_
        refine Og.st_start (n := 139) rfl fun a hF => ?_
        refine Og.st_same (.agg (pkL q (.slice none 0 0)).toArray) hF rfl rfl (by decide) (Og.exec_load rfl (load_pk hS.p hS.ok)) ?_
        clear hF a; intro a hF
        refine Og.st_same (.int .i64 F) hF rfl rfl (by decide) (by kernel_rfl) ?_
        clear hF a; intro a hF
        refine Og.st_same (.int .i64 (x : Nat)) hF rfl rfl (by decide) (by kernel_rfl) ?_
        clear hF a; intro a hF
        refine Og.st_call (f := 91) (args := #[.agg (pkL q (.slice none 0 0)).toArray, .int .i64 F, .int .i64 (x : Nat)]) hF rfl rfl (by decide) ((Og.exec_call rfl rlay_enter rfl _).trans (by kernel_rfl)) ((Hlay.out _ q hS.ok x Hx.out).out.mono ?_)
        rintro e w5 ⟨rfl, hb5⟩
        refine ⟨_, rfl, ?_⟩
        clear hF a; intro a hF
        replace hS := hS.below hb5
        have hok := hS.ok.setNum (i : Int) Hx.out
        refine Og.st_skip (w' := w5.setCells (w.heap.size + 1) 0 (pkL (q.setNum i x) (.slice none 0 0))) hF rfl rfl
          (exec_store (o := 0) (vs := pkL (q.setNum i x) (.slice none 0 0)) (cs := pkL q (.slice none 0 0)) rfl rfl rfl hS.p (by rw [pkL_length hS.ok, pkL_length hok]; decide) (by rw [pkL_length hok]; exact pk_i) (pkL_one _ _ rfl)) ?_
        clear hF a; intro a hF
        replace hS := hS.put hrl 0 (pkL (q.setNum i x) (.slice none 0 0)) (q.setNum i x) (set_all hok hS.ok) hok (by rw [Wi.setNum_cmd]; exact hS.cmd) (by rw [Wi.setNum_data]; exact hS.data)
        generalize w5.setCells (w.heap.size + 1) 0 (pkL (q.setNum i x) (.slice none 0 0)) = w6 at *
        refine wpList_nil ?_
        obtain ⟨U, rfl⟩ := Og.Fr.lit_ex hF (fun U => ⟨#[.pointer (some ⟨r, 0, none⟩), .int .i64 c, U 2, U 3, .pointer (some ⟨w.heap.size, 0, none⟩), .bool false, .pointer (some ⟨w.heap.size + 1, 0, none⟩), .int .i64 i, U 8, U 9, U 10, U 11, U 12, U 13, U 14, U 15, U 16, U 17, U 18, U 19, U 20, U 21, U 22, U 23, U 24, U 25, U 26, U 27, U 28, U 29, U 30, U 31, U 32, U 33, U 34, U 35, U 36, U 37, U 38, U 39, U 40, U 41, U 42, U 43, U 44, U 45, U 46, U 47, U 48, U 49, U 50, U 51, U 52, U 53, U 54, U 55, U 56, U 57, U 58, U 59, U 60, U 61, U 62, U 63, U 64, U 65, U 66, U 67, U 68, U 69, U 70, U 71, U 72, U 73, U 74, U 75, U 76, U 77, U 78, U 79, U 80, U 81, U 82, U 83, U 84, U 85, U 86, U 87, U 88, U 89, U 90, U 91, U 92, U 93, U 94, U 95, U 96, U 97, U 98, U 99, U 100, U 101, U 102, U 103, U 104, U 105, U 106, U 107, U 108, U 109, U 110, U 111, U 112, U 113, U 114, U 115, U 116, U 117, U 118, U 119, U 120, U 121, U 122, U 123, U 124, U 125, U 126, U 127, U 128, U 129, U 130, U 131, U 132, U 133, U 134, U 135, U 136, U 137, U 138], []⟩) (by kernel_rfl)
        clear hF
        refine hblk _ _ ?_
        clear hblk
        go_wp2_with fail
        refine ⟨q.setNum i x, l.length - rest.length, exU (fun U => ⟨#[.pointer (some ⟨r, 0, none⟩), .int .i64 c, U 2, U 3, .pointer (some ⟨w.heap.size, 0, none⟩), .bool false, .pointer (some ⟨w.heap.size + 1, 0, none⟩), .int .i64 (i + 1 : Nat), U 8, U 9, U 10, U 11, U 12, U 13, U 14, U 15, U 16, U 17, U 18, U 19, U 20, U 21, U 22, U 23, U 24, U 25, U 26, U 27, U 28, U 29, U 30, U 31, U 32, U 33, U 34, U 35, U 36, U 37, U 38, U 39, U 40, U 41, U 42, U 43, U 44, U 45, U 46, U 47, U 48, U 49, U 50, U 51, U 52, U 53, U 54, U 55, U 56, U 57, U 58, U 59, U 60, U 61, U 62, U 63, U 64, U 65, U 66, U 67, U 68, U 69, U 70, U 71, U 72, U 73, U 74, U 75, U 76, U 77, U 78, U 79, U 80, U 81, U 82, U 83, U 84, U 85, U 86, U 87, U 88, U 89, U 90, U 91, U 92, U 93, U 94, U 95, U 96, U 97, U 98, U 99, U 100, U 101, U 102, U 103, U 104, U 105, U 106, U 107, U 108, U 109, U 110, U 111, U 112, U 113, U 114, U 115, U 116, U 117, U 118, U 119, U 120, U 121, U 122, U 123, U 124, U 125, U 126, U 127, U 128, U 129, U 130, U 131, U 132, U 133, U 134, U 135, U 136, U 137, U 138], []⟩) rfl, hS, ?_⟩
        rw [Hdr.out]
        exact Hq.out
  · clear hS Hres hat w2 at_
    rintro a w' ⟨q, at_, ⟨U, rfl⟩, hS, hq⟩
    rw [Nat.sub_self, Wi.rN, Wi.rG] at hq
    have Hq0 := Lib.hid hq
    clear hq
    go_wp2_with fail
    refine (H32.out _ (Hcars.out _ hS.g)).out.mono ?_
    rintro e w2 ⟨rfl, hb2⟩
    replace hS := hS.below hb2
    clear hb2 Hfive H32
    go_upto_if 43 with fail
    rename_i hnext
    refine wp_cut (RRestC w r (.slice (some ⟨g, o, none⟩) l.length cp) l c res (Wi.rS c)) ?_ ?_
    · clear hS Hq0 q at_ w2
      rintro a w' ⟨t, q, at_, ⟨U, rfl⟩, hS, hq⟩
      refine hnext _ _ ?_
      clear hnext
      cases t
      · rw [if_neg (by decide)] at hq
        have Hq := Lib.hid hq
        clear hq
        go_upto_region 14 with fail
        rename_i hnext
        refine wp_region_lit ?_
        refine Og.st_start (n := 139) rfl fun a hF => ?_
        refine Og.st_same (.bool false) hF rfl rfl (by decide) (by kernel_rfl) ?_
        clear hF a; intro a hF
        refine Og.st_same (.bool false) hF rfl rfl (by decide) (by kernel_rfl) ?_
        clear hF a; intro a hF
        refine Og.st_pass hF (by kernel_rfl) rfl (by decide) ?_
        clear hF a; intro a hF
        refine Og.st_pass hF (by kernel_rfl) rfl (by decide) ?_
        clear hF a; intro a hF
        refine Og.st_same (.bool false) hF rfl rfl (by decide) (by kernel_rfl) ?_
        clear hF a; intro a hF
        refine wpList_nil ?_
        obtain ⟨U, rfl⟩ := Og.Fr.lit_ex hF (fun U => ⟨#[.pointer (some ⟨r, 0, none⟩), .int .i64 c, U 2, U 3, .pointer (some ⟨w.heap.size, 0, none⟩), .bool false, .pointer (some ⟨w.heap.size + 1, 0, none⟩), U 7, U 8, U 9, U 10, .bool false, U 12, U 13, U 14, U 15, U 16, U 17, U 18, U 19, U 20, U 21, U 22, U 23, U 24, U 25, U 26, U 27, U 28, U 29, U 30, U 31, U 32, U 33, U 34, U 35, U 36, U 37, U 38, U 39, U 40, U 41, U 42, U 43, U 44, U 45, U 46, U 47, U 48, U 49, U 50, U 51, U 52, U 53, .bool false, U 55, U 56, U 57, U 58, U 59, U 60, U 61, U 62, U 63, U 64, U 65, U 66, U 67, U 68, U 69, U 70, U 71, U 72, U 73, U 74, U 75, U 76, U 77, U 78, U 79, U 80, U 81, U 82, U 83, U 84, U 85, U 86, U 87, U 88, U 89, U 90, U 91, U 92, U 93, U 94, U 95, U 96, U 97, U 98, U 99, U 100, U 101, U 102, U 103, U 104, U 105, U 106, U 107, U 108, U 109, U 110, U 111, U 112, U 113, U 114, U 115, U 116, U 117, U 118, U 119, U 120, U 121, U 122, U 123, U 124, U 125, U 126, U 127, U 128, U 129, U 130, U 131, U 132, U 133, U 134, U 135, U 136, U 137, U 138], []⟩) (by kernel_rfl)
        clear hF
        refine hnext _ _ ?_
        clear hnext
        go_upto_region 16 with fail
        rename_i hnext
        refine wp_region_lit ?_
        refine Og.st_start (n := 139) rfl fun a hF => ?_
        refine Og.st_same (.bool false) hF rfl rfl (by decide) (by kernel_rfl) ?_
        clear hF a; intro a hF
        refine Og.st_same (.bool true) hF rfl rfl (by decide) (by kernel_rfl) ?_
        clear hF a; intro a hF
        refine Og.st_same (.bool true) hF rfl rfl (by decide) (by kernel_rfl) ?_
        clear hF a; intro a hF
        refine Og.st_pass hF (by kernel_rfl) rfl (by decide) ?_
        clear hF a; intro a hF
        refine Og.st_pass hF (by kernel_rfl) rfl (by decide) ?_
        clear hF a; intro a hF
        refine Og.st_pass hF (by kernel_rfl) rfl (by decide) ?_
        clear hF a; intro a hF
        refine Og.st_same (.bool true) hF rfl rfl (by decide) (by kernel_rfl) ?_
        clear hF a; intro a hF
        refine wpList_nil ?_
        obtain ⟨U, rfl⟩ := Og.Fr.lit_ex hF (fun U => ⟨#[.pointer (some ⟨r, 0, none⟩), .int .i64 c, U 2, U 3, .pointer (some ⟨w.heap.size, 0, none⟩), .bool false, .pointer (some ⟨w.heap.size + 1, 0, none⟩), U 7, U 8, U 9, U 10, .bool false, U 12, U 13, U 14, U 15, U 16, U 17, U 18, U 19, U 20, U 21, U 22, U 23, U 24, U 25, U 26, U 27, U 28, U 29, U 30, U 31, U 32, U 33, U 34, U 35, U 36, U 37, U 38, U 39, U 40, U 41, U 42, U 43, U 44, U 45, U 46, U 47, U 48, U 49, U 50, U 51, U 52, U 53, U 54, U 55, U 56, U 57, U 58, U 59, U 60, U 61, U 62, U 63, U 64, U 65, U 66, U 67, U 68, U 69, U 70, U 71, U 72, U 73, .bool true, U 75, U 76, U 77, U 78, U 79, U 80, U 81, U 82, U 83, U 84, U 85, U 86, U 87, U 88, U 89, U 90, U 91, U 92, U 93, U 94, U 95, U 96, U 97, U 98, U 99, U 100, U 101, U 102, U 103, U 104, U 105, U 106, U 107, U 108, U 109, U 110, U 111, U 112, U 113, U 114, U 115, U 116, U 117, U 118, U 119, U 120, U 121, U 122, U 123, U 124, U 125, U 126, U 127, U 128, U 129, U 130, U 131, U 132, U 133, U 134, U 135, U 136, U 137, U 138], []⟩) (by kernel_rfl)
        clear hF
        refine hnext _ _ ?_
        clear hnext
        go_upto_region 17 with fail
        rename_i hnext
        refine wp_region_lit ?_
        refine Og.st_start (n := 139) rfl fun a hF => ?_
        refine Og.st_same (.agg (pkL q (.slice none 0 0)).toArray) hF rfl rfl (by decide) (Og.exec_load rfl (load_pk hS.p hS.ok)) ?_
        clear hF a; intro a hF
        refine Og.st_same (.bool false) hF rfl rfl (by decide) (by kernel_rfl) ?_
        clear hF a; intro a hF
        refine Og.st_skip (w' := _) hF rfl rfl (exec_store (o := 0) (vs := pkL q (.slice none 0 0)) (cs := pkL (Wi.Pk.zero 0) (.slice none 0 0)) rfl rfl rfl hS.z (by rw [pkL_length hS.ok, pkL_length (Wi.Pk.zero_ok 0)]; decide) (by rw [pkL_length hS.ok]; exact pk_i) (pkL_one q _ rfl)) ?_
        clear hF a; intro a hF
        have hfin := hS.fin hrl
        generalize World.setCells _ w.heap.size 0 (pkL q (.slice none 0 0)) = wf at *
        refine Og.st_same (.bool false) hF rfl rfl (by decide) (by kernel_rfl) ?_
        clear hF a; intro a hF
        refine wpList_nil ?_
        refine hnext _ _ (wp_ret ?_)
        (try simp only [Exit.inBlock, Exit.then, Exit.inLoop])
        refine bodyPost_ret (results_cellTmp rfl (hF.2.2 4) (by simpa [Instr.loadAt, Instr.sureAddr] using load_pk hfin.1 hS.ok)) hF.1 ?_
        rw [hF.2.2 5, Hq.out]
        exact ⟨q, rfl, hS.ok, by rw [hS.len_drop]; exact hfin.2.1, hfin.2.2⟩
      · rw [if_pos rfl, Wi.rS] at hq
        have Hq0 := Lib.hid hq
        clear hq
        go_upto_region 14 with fail
        rename_i hnext
        refine wp_region_lit ?_
        refine Og.st_start (n := 139) rfl fun a hF => ?_
        refine Og.st_same (.bool true) hF rfl rfl (by decide) (by kernel_rfl) ?_
        clear hF a; intro a hF
        refine Og.st_same (.bool true) hF rfl rfl (by decide) (by kernel_rfl) ?_
        clear hF a; intro a hF
        refine Og.st_same_g (.int .i64 c) hF (by kernel_rfl) rfl (by decide) (by kernel_rfl) ?_
        clear hF a; intro a hF
        refine Og.st_call_g (f := 44) (args := #[.int .i64 c, .int .i64 64]) hF (by kernel_rfl) rfl (by decide) ((Og.exec_call rfl rhas_enter rfl _).trans (by kernel_rfl)) ((H64.out _ (Hcars.out _ hS.g)).out.mono ?_)
        rintro e w2 ⟨rfl, hb2⟩
        refine ⟨_, rfl, ?_⟩
        clear hF a; intro a hF
        replace hS := hS.below hb2
        clear hb2
        refine Og.st_same (.bool (Wi.rHas c 64)) hF rfl rfl (by decide) (by kernel_rfl) ?_
        clear hF a; intro a hF
        refine wpList_nil ?_
        obtain ⟨U, rfl⟩ := Og.Fr.lit_ex hF (fun U => ⟨#[.pointer (some ⟨r, 0, none⟩), .int .i64 c, U 2, U 3, .pointer (some ⟨w.heap.size, 0, none⟩), .bool false, .pointer (some ⟨w.heap.size + 1, 0, none⟩), U 7, U 8, U 9, U 10, .bool true, U 12, U 13, U 14, U 15, U 16, U 17, U 18, U 19, U 20, U 21, U 22, U 23, U 24, U 25, U 26, U 27, U 28, U 29, U 30, U 31, U 32, U 33, U 34, U 35, U 36, U 37, U 38, U 39, U 40, U 41, U 42, U 43, U 44, U 45, U 46, U 47, U 48, U 49, U 50, U 51, U 52, U 53, .bool (Wi.rHas c 64), U 55, U 56, U 57, U 58, U 59, U 60, U 61, U 62, U 63, U 64, U 65, U 66, U 67, U 68, U 69, U 70, U 71, U 72, U 73, U 74, U 75, U 76, U 77, U 78, U 79, U 80, U 81, U 82, U 83, U 84, U 85, U 86, U 87, U 88, U 89, U 90, U 91, U 92, U 93, U 94, U 95, U 96, U 97, U 98, U 99, U 100, U 101, U 102, U 103, U 104, U 105, U 106, U 107, U 108, U 109, U 110, U 111, U 112, U 113, U 114, U 115, U 116, U 117, U 118, U 119, U 120, U 121, U 122, U 123, U 124, U 125, U 126, U 127, U 128, U 129, U 130, U 131, U 132, U 133, U 134, U 135, U 136, U 137, U 138], []⟩) (by kernel_rfl)
        clear hF
        refine hnext _ _ ?_
        clear hnext
        go_upto_if 54 with fail
        rename_i hnext K14
        refine wp_cut (RRestC w r (.slice (some ⟨g, o, none⟩) l.length cp) l c res (Wi.rD c)) ?_ ?_
        · clear hS Hq0 q at_ w2 H64 w'
          rintro a w' ⟨t, q, at_, ⟨U, rfl⟩, hS, hq⟩
          refine hnext _ _ ?_
          clear hnext
          cases t
          · rw [if_neg (by decide)] at hq
            have Hq := Lib.hid hq
            clear hq
            go_upto_region 16 with fail
            rename_i hnext
            refine wp_region_lit ?_
            refine Og.st_start (n := 139) rfl fun a hF => ?_
            refine Og.st_same (.bool false) hF rfl rfl (by decide) (by kernel_rfl) ?_
            clear hF a; intro a hF
            refine Og.st_same (.bool true) hF rfl rfl (by decide) (by kernel_rfl) ?_
            clear hF a; intro a hF
            refine Og.st_same (.bool true) hF rfl rfl (by decide) (by kernel_rfl) ?_
            clear hF a; intro a hF
            refine Og.st_pass hF (by kernel_rfl) rfl (by decide) ?_
            clear hF a; intro a hF
            refine Og.st_pass hF (by kernel_rfl) rfl (by decide) ?_
            clear hF a; intro a hF
            refine Og.st_pass hF (by kernel_rfl) rfl (by decide) ?_
            clear hF a; intro a hF
            refine Og.st_same (.bool true) hF rfl rfl (by decide) (by kernel_rfl) ?_
            clear hF a; intro a hF
            refine wpList_nil ?_
            obtain ⟨U, rfl⟩ := Og.Fr.lit_ex hF (fun U => ⟨#[.pointer (some ⟨r, 0, none⟩), .int .i64 c, U 2, U 3, .pointer (some ⟨w.heap.size, 0, none⟩), .bool false, .pointer (some ⟨w.heap.size + 1, 0, none⟩), U 7, U 8, U 9, U 10, .bool false, U 12, U 13, U 14, U 15, U 16, U 17, U 18, U 19, U 20, U 21, U 22, U 23, U 24, U 25, U 26, U 27, U 28, U 29, U 30, U 31, U 32, U 33, U 34, U 35, U 36, U 37, U 38, U 39, U 40, U 41, U 42, U 43, U 44, U 45, U 46, U 47, U 48, U 49, U 50, U 51, U 52, U 53, U 54, U 55, U 56, U 57, U 58, U 59, U 60, U 61, U 62, U 63, U 64, U 65, U 66, U 67, U 68, U 69, U 70, U 71, U 72, U 73, .bool true, U 75, U 76, U 77, U 78, U 79, U 80, U 81, U 82, U 83, U 84, U 85, U 86, U 87, U 88, U 89, U 90, U 91, U 92, U 93, U 94, U 95, U 96, U 97, U 98, U 99, U 100, U 101, U 102, U 103, U 104, U 105, U 106, U 107, U 108, U 109, U 110, U 111, U 112, U 113, U 114, U 115, U 116, U 117, U 118, U 119, U 120, U 121, U 122, U 123, U 124, U 125, U 126, U 127, U 128, U 129, U 130, U 131, U 132, U 133, U 134, U 135, U 136, U 137, U 138], []⟩) (by kernel_rfl)
            clear hF
            refine hnext _ _ ?_
            clear hnext
            go_upto_region 17 with fail
            rename_i hnext
            refine wp_region_lit ?_
            refine Og.st_start (n := 139) rfl fun a hF => ?_
            refine Og.st_same (.agg (pkL q (.slice none 0 0)).toArray) hF rfl rfl (by decide) (Og.exec_load rfl (load_pk hS.p hS.ok)) ?_
            clear hF a; intro a hF
            refine Og.st_same (.bool false) hF rfl rfl (by decide) (by kernel_rfl) ?_
            clear hF a; intro a hF
            refine Og.st_skip (w' := _) hF rfl rfl (exec_store (o := 0) (vs := pkL q (.slice none 0 0)) (cs := pkL (Wi.Pk.zero 0) (.slice none 0 0)) rfl rfl rfl hS.z (by rw [pkL_length hS.ok, pkL_length (Wi.Pk.zero_ok 0)]; decide) (by rw [pkL_length hS.ok]; exact pk_i) (pkL_one q _ rfl)) ?_
            clear hF a; intro a hF
            have hfin := hS.fin hrl
            generalize World.setCells _ w.heap.size 0 (pkL q (.slice none 0 0)) = wf at *
            refine Og.st_same (.bool false) hF rfl rfl (by decide) (by kernel_rfl) ?_
            clear hF a; intro a hF
            refine wpList_nil ?_
            refine hnext _ _ (wp_ret ?_)
            (try simp only [Exit.inBlock, Exit.then, Exit.inLoop])
            refine bodyPost_ret (results_cellTmp rfl (hF.2.2 4) (by simpa [Instr.loadAt, Instr.sureAddr] using load_pk hfin.1 hS.ok)) hF.1 ?_
            rw [hF.2.2 5, Hq.out]
            exact ⟨q, rfl, hS.ok, by rw [hS.len_drop]; exact hfin.2.1, hfin.2.2⟩
          · rw [if_pos rfl, Wi.rD] at hq
            have Hq0 := Lib.hid hq
            clear hq
            go_upto_region 16 with fail
            rename_i hnext
            refine wp_region_lit ?_
            refine Og.st_start (n := 139) rfl fun a hF => ?_
            refine Og.st_same (.bool true) hF rfl rfl (by decide) (by kernel_rfl) ?_
            clear hF a; intro a hF
            refine Og.st_same (.bool false) hF rfl rfl (by decide) (by kernel_rfl) ?_
            clear hF a; intro a hF
            refine Og.st_same (.bool false) hF rfl rfl (by decide) (by kernel_rfl) ?_
            clear hF a; intro a hF
            refine Og.st_same_g (.int .i64 c) hF (by kernel_rfl) rfl (by decide) (by kernel_rfl) ?_
            clear hF a; intro a hF
            refine Og.st_call_g (f := 44) (args := #[.int .i64 c, .int .i64 128]) hF (by kernel_rfl) rfl (by decide) ((Og.exec_call rfl rhas_enter rfl _).trans (by kernel_rfl)) ((H128.out _ (Hcars.out _ hS.g)).out.mono ?_)
            rintro e w2 ⟨rfl, hb2⟩
            refine ⟨_, rfl, ?_⟩
            clear hF a; intro a hF
            replace hS := hS.below hb2
            clear hb2 H128 Hcars
            refine Og.st_same_g (.bool (!Wi.rHas c 128)) hF (by kernel_rfl) rfl (by decide) (by kernel_rfl) ?_
            clear hF a; intro a hF
            refine Og.st_same (.bool (!Wi.rHas c 128)) hF rfl rfl (by decide) (by kernel_rfl) ?_
            clear hF a; intro a hF
            refine wpList_nil ?_
            obtain ⟨U, rfl⟩ := Og.Fr.lit_ex hF (fun U => ⟨#[.pointer (some ⟨r, 0, none⟩), .int .i64 c, U 2, U 3, .pointer (some ⟨w.heap.size, 0, none⟩), .bool false, .pointer (some ⟨w.heap.size + 1, 0, none⟩), U 7, U 8, U 9, U 10, .bool true, U 12, U 13, U 14, U 15, U 16, U 17, U 18, U 19, U 20, U 21, U 22, U 23, U 24, U 25, U 26, U 27, U 28, U 29, U 30, U 31, U 32, U 33, U 34, U 35, U 36, U 37, U 38, U 39, U 40, U 41, U 42, U 43, U 44, U 45, U 46, U 47, U 48, U 49, U 50, U 51, U 52, U 53, U 54, U 55, U 56, U 57, U 58, U 59, U 60, U 61, U 62, U 63, U 64, U 65, U 66, U 67, U 68, U 69, U 70, U 71, U 72, U 73, .bool (!Wi.rHas c 128), U 75, U 76, U 77, U 78, U 79, U 80, U 81, U 82, U 83, U 84, U 85, U 86, U 87, U 88, U 89, U 90, U 91, U 92, U 93, U 94, U 95, U 96, U 97, U 98, U 99, U 100, U 101, U 102, U 103, U 104, U 105, U 106, U 107, U 108, U 109, U 110, U 111, U 112, U 113, U 114, U 115, U 116, U 117, U 118, U 119, U 120, U 121, U 122, U 123, U 124, U 125, U 126, U 127, U 128, U 129, U 130, U 131, U 132, U 133, U 134, U 135, U 136, U 137, U 138], []⟩) (by kernel_rfl)
            clear hF
            refine hnext _ _ ?_
            clear hnext
            cases hh : Wi.rHas c 128
            · have hq := Hq0.out
              rw [hh, if_neg (by decide)] at hq
              have Hq := Lib.hid hq
              clear hq Hq0
              go_upto_region 17 with fail
              rename_i hnext
              refine wp_region_lit ?_
              refine Og.st_start (n := 139) rfl fun a hF => ?_
              refine Og.st_same (.agg (pkL q (.slice none 0 0)).toArray) hF rfl rfl (by decide) (Og.exec_load rfl (load_pk hS.p hS.ok)) ?_
              clear hF a; intro a hF
              refine Og.st_same (.bool true) hF rfl rfl (by decide) (by kernel_rfl) ?_
              clear hF a; intro a hF
              refine Og.st_skip (w' := _) hF rfl rfl (exec_store (o := 0) (vs := pkL q (.slice none 0 0)) (cs := pkL (Wi.Pk.zero 0) (.slice none 0 0)) rfl rfl rfl hS.z (by rw [pkL_length hS.ok, pkL_length (Wi.Pk.zero_ok 0)]; decide) (by rw [pkL_length hS.ok]; exact pk_i) (pkL_one q _ rfl)) ?_
              clear hF a; intro a hF
              have hfin := hS.fin hrl
              generalize World.setCells _ w.heap.size 0 (pkL q (.slice none 0 0)) = wf at *
              refine Og.st_same (.bool true) hF rfl rfl (by decide) (by kernel_rfl) ?_
              clear hF a; intro a hF
              refine wpList_nil ?_
              refine hnext _ _ (wp_ret ?_)
              (try simp only [Exit.inBlock, Exit.then, Exit.inLoop])
              refine bodyPost_ret (results_cellTmp rfl (hF.2.2 4) (by simpa [Instr.loadAt, Instr.sureAddr] using load_pk hfin.1 hS.ok)) hF.1 ?_
              rw [hF.2.2 5, Hq.out]
              exact ⟨_, rfl, hS.ok, by rw [hS.data]; exact OB.nil_ _ _, by rw [hS.len_drop]; exact hfin.2.1, hfin.2.2⟩
            · have hq := Hq0.out
              rw [hh, if_pos rfl] at hq
              have Hq1 := Lib.hid hq
              clear hq Hq0
              go_upto_region 18 with fail
              rename_i hnext
              refine wp_region_lit ?_
              refine Og.st_start (n := 139) rfl fun a hF => ?_
              refine Og.st_same (.pointer (some ⟨r, 0, none⟩)) hF rfl rfl (by decide) (by kernel_rfl) ?_
              clear hF a; intro a hF
              refine Og.st_same (.int .i64 c) hF rfl rfl (by decide) (by kernel_rfl) ?_
              clear hF a; intro a hF
              refine Og.st_same (.agg (pkL q (.slice none 0 0)).toArray) hF rfl rfl (by decide) (Og.exec_load rfl (load_pk hS.p hS.ok)) ?_
              clear hF a; intro a hF
              have hsz := hS.size
              refine Og.st_call (f := 86) (args := #[.int .i64 c, .agg (pkL q (.slice none 0 0)).toArray]) hF rfl rfl (by decide) ((Og.exec_call rfl rlengths_enter rfl _).trans (by kernel_rfl)) ((rlengths_calls (c : Int) hS.ok).mono ?_)
              rintro e w3 ⟨sv, rfl, hsp, hsv, hb3⟩
              refine ⟨_, rfl, ?_⟩
              clear hF a; intro a hF
              replace hS := hS.below hb3
              have hsr : sv.ownBlock ≠ some r := fun e => by have := hsv r e; omega
              clear hb3
              refine Og.st_call (f := 90) (args := #[.pointer (some ⟨r, 0, none⟩), .int .i64 (2 : Nat), sv]) hF rfl rfl (by decide) ((Og.exec_call rfl rnumber_enter rfl _).trans (by kernel_rfl)) ((rnumber_calls (n := 2) hS.rd (Hrb.out _ hS.g) hgr hsp hsr hS.le hl (by decide)).mono ?_)
              intro e w4 hpost
              obtain ⟨x, t, rest, rfl, hR4, hg4, hqq⟩ := hpost.form
              refine ⟨_, rfl, ?_⟩
              clear hF a; intro a hF
              refine Og.st_same (.tuple #[.int .i64 (x : Nat), .bool t]) hF rfl rfl (by decide) (by kernel_rfl) ?_
              clear hF a; intro a hF
              refine Og.st_same (.int .i64 (x : Nat)) hF rfl rfl (by decide) (by kernel_rfl) ?_
              clear hF a; intro a hF
              refine Og.st_same (.bool t) hF rfl rfl (by decide) (by kernel_rfl) ?_
              clear hF a; intro a hF
              refine Og.st_same (.int .i64 (x : Nat)) hF rfl rfl (by decide) (by kernel_rfl) ?_
              clear hF a; intro a hF
              refine Og.st_same (.bool t) hF rfl rfl (by decide) (by kernel_rfl) ?_
              clear hF a; intro a hF
              replace hS := hS.read hrl hg4 hR4 (Nat.sub_le _ _)
              have hsuf : rest <:+ l.drop at_ := by
                have := Wi.rNum_suffix (Wi.rLengths c q) 2 0 (l.drop at_)
                rw [hqq] at this
                cases t <;> exact this
              have hdr := Wi.drop_of_suffix hsuf
              have hq := Hq1.out
              rw [hqq] at hq
              clear Hq1 hpost hsuf hR4 hg4
              refine wpList_nil ?_
              obtain ⟨U, rfl⟩ := Og.Fr.lit_ex hF (fun U => ⟨#[.pointer (some ⟨r, 0, none⟩), .int .i64 c, U 2, U 3, .pointer (some ⟨w.heap.size, 0, none⟩), .bool false, .pointer (some ⟨w.heap.size + 1, 0, none⟩), U 7, U 8, U 9, U 10, U 11, .int .i64 (x : Nat), .bool t, U 14, U 15, U 16, U 17, U 18, U 19, U 20, U 21, U 22, U 23, U 24, U 25, U 26, U 27, U 28, U 29, U 30, U 31, U 32, U 33, U 34, U 35, U 36, U 37, U 38, U 39, U 40, U 41, U 42, U 43, U 44, U 45, U 46, U 47, U 48, U 49, U 50, U 51, U 52, U 53, U 54, U 55, U 56, U 57, U 58, U 59, U 60, U 61, U 62, U 63, U 64, U 65, U 66, U 67, U 68, U 69, U 70, U 71, U 72, U 73, U 74, U 75, U 76, U 77, U 78, U 79, U 80, U 81, U 82, U 83, U 84, U 85, U 86, U 87, U 88, U 89, U 90, U 91, U 92, U 93, U 94, U 95, U 96, U 97, U 98, U 99, U 100, U 101, U 102, U 103, U 104, U 105, U 106, U 107, U 108, U 109, U 110, U 111, U 112, U 113, U 114, U 115, U 116, U 117, U 118, U 119, U 120, U 121, U 122, U 123, U 124, U 125, U 126, U 127, U 128, U 129, U 130, U 131, U 132, U 133, U 134, U 135, U 136, U 137, U 138], []⟩) (by kernel_rfl)
              clear hF
              refine hnext _ _ ?_
              clear hnext
              cases t
              · rw [if_neg (by decide), ← hdr] at hq
                have Hq := Lib.hid hq
                clear hq hqq hdr hsp hsv hsr
                go_upto_region 20 with fail
                rename_i hnext
                refine wp_region_lit ?_
                refine Og.st_start (n := 139) rfl fun a hF => ?_
                refine Og.st_same (.agg (pkL q (.slice none 0 0)).toArray) hF rfl rfl (by decide) (Og.exec_load rfl (load_pk hS.p hS.ok)) ?_
                clear hF a; intro a hF
                refine Og.st_skip (w' := _) hF rfl rfl (exec_store (o := 0) (vs := pkL q (.slice none 0 0)) (cs := pkL (Wi.Pk.zero 0) (.slice none 0 0)) rfl rfl rfl hS.z (by rw [pkL_length hS.ok, pkL_length (Wi.Pk.zero_ok 0)]; decide) (by rw [pkL_length hS.ok]; exact pk_i) (pkL_one q _ rfl)) ?_
                clear hF a; intro a hF
                have hfin := hS.fin hrl
                generalize World.setCells _ w.heap.size 0 (pkL q (.slice none 0 0)) = wf at *
                refine Og.st_same (.bool false) hF rfl rfl (by decide) (by kernel_rfl) ?_
                clear hF a; intro a hF
                refine wpList_nil ?_
                refine hnext _ _ (wp_ret ?_)
                (try simp only [Exit.inBlock, Exit.then, Exit.inLoop])
                refine bodyPost_ret (results_cellTmp rfl (hF.2.2 4) (by simpa [Instr.loadAt, Instr.sureAddr] using load_pk hfin.1 hS.ok)) hF.1 ?_
                rw [hF.2.2 5, Hq.out]
                exact ⟨q, rfl, hS.ok, by rw [hS.len_drop]; exact hfin.2.1, hfin.2.2⟩
              · rw [if_pos rfl] at hq hqq
                have hx : x < 65536 := by
                  have := Wi.rNum_lt _ 2 0 0 _ x rest (by decide) hqq
                  simpa using this
                have hrn : rest.length ≤ l.length := by
                  have := congrArg List.length hdr
                  rw [List.length_drop] at this
                  omega
                obtain ⟨a2, ha2⟩ : ∃ a2, a2 = l.length - rest.length := ⟨_, rfl⟩
                rw [← ha2] at hS hdr
                have Hq1 := Lib.hid hq
                have Hdr := Lib.hid hdr
                have hal : a2 + rest.length = l.length := by omega
                clear hq hqq hdr hsp hsv hsr ha2
                have h0 := hS.rd.c0
                have h1 := hS.rd.c1
                have hrlt := hS.rd.lt
                have hw1 : IntKind.i64.wrap ((l.length : Int) - (a2 : Int)) = (l.length : Int) - (a2 : Int) := IntWalk.i64_in _ ⟨by omega, by omega⟩
                by_cases hn : rest.length < x
                · have hq := Hq1.out
                  simp only [hn, if_true] at hq
                  have Hq : Hid (res = Wi.Res.bad (l.drop l.length)) := by
                    show _ = _
                    rw [List.drop_length]; exact hq
                  clear hq Hq1
                  have hnI : (l.length : Int) - (a2 : Int) < (x : Int) := by omega
                  go_wp2_with fail
                  refine wp_region_here (by kernel_rfl) (by kernel_rfl) ?_
                  (repeat (first | (apply wpR_pass rfl; (try simp only [Act.put, List.setIfInBounds_toArray, List.set_cons_succ, List.set_cons_zero])) | (apply wpR_val rfl; (focus (intro w1 hR; obtain ⟨hc, hf⟩ := bcellB hR; (try go_simp); (try exact Eq.refl _); done)); (try simp only [Act.put, List.setIfInBounds_toArray, List.set_cons_succ, List.set_cons_zero])) | (apply wpR_call rfl; (focus (intro w1 hR; obtain ⟨hc, hf⟩ := bcellB hR; (try go_simp); (try exact And.intro rfl rfl); done)); (focus (intro w1 hR; first | exact ().at_ (by first | omega | (simp; done) | (simp; omega)) hR)); (try simp only [Act.put, List.setIfInBounds_toArray, List.set_cons_succ, List.set_cons_zero])) | (apply wpR_val_want rfl; (focus (intro w1 hR; obtain ⟨hc, hf⟩ := bcellB hR; (try go_simp); (try exact Eq.refl _); done)); (try simp only [Act.put, List.setIfInBounds_toArray, List.set_cons_succ, List.set_cons_zero])) | (apply wpR_call_want rfl; (focus (intro w1 hR; obtain ⟨hc, hf⟩ := bcellB hR; (try go_simp); (try exact And.intro rfl rfl); done)); (focus (intro w1 hR; first | exact ().at_ (by first | omega | (simp; done) | (simp; omega)) hR)); (try simp only [Act.put, List.setIfInBounds_toArray, List.set_cons_succ, List.set_cons_zero]))))
                  refine wpR_nil ?_
                  intro w5 hb5
                  replace hS := hS.below hb5
                  have h0 := hS.rd.c0
                  have h1 := hS.rd.c1
                  have hrlt := hS.rd.lt
                  have hfz : w5.frozen? ⟨r, 1, none⟩ = false := by simp [World.frozen?, show w5.heap[r]? = _ from hS.rd]
                  clear hw1 hb5
                  go_upto_region 23 with fail
                  rename_i hnext
                  replace hS : RSt w r (.slice (some ⟨g, o, none⟩) l.length cp) l.length c l.length q (w5.setCell ⟨r, 1, none⟩ (.int .i64 (l.length : Nat))) := hS.read hrl (setCells_grown w5 r 1 [.int .i64 (l.length : Nat)]) (hS.rd.set l.length) (Nat.le_refl _)
                  clear h0 h1 hrlt hfz
                  generalize w5.setCell ⟨r, 1, none⟩ (.int .i64 (l.length : Nat)) = w6 at *
                  refine wp_region_lit ?_
                  refine Og.st_start (n := 139) rfl fun a hF => ?_
                  refine Og.st_same (.agg (pkL q (.slice none 0 0)).toArray) hF rfl rfl (by decide) (Og.exec_load rfl (load_pk hS.p hS.ok)) ?_
                  clear hF a; intro a hF
                  refine Og.st_skip (w' := _) hF rfl rfl (exec_store (o := 0) (vs := pkL q (.slice none 0 0)) (cs := pkL (Wi.Pk.zero 0) (.slice none 0 0)) rfl rfl rfl hS.z (by rw [pkL_length hS.ok, pkL_length (Wi.Pk.zero_ok 0)]; decide) (by rw [pkL_length hS.ok]; exact pk_i) (pkL_one q _ rfl)) ?_
                  clear hF a; intro a hF
                  have hfin := hS.fin hrl
                  generalize World.setCells _ w.heap.size 0 (pkL q (.slice none 0 0)) = wf at *
                  refine Og.st_same (.bool false) hF rfl rfl (by decide) (by kernel_rfl) ?_
                  clear hF a; intro a hF
                  refine wpList_nil ?_
                  refine hnext _ _ (wp_ret ?_)
                  (try simp only [Exit.inBlock, Exit.then, Exit.inLoop])
                  refine bodyPost_ret (results_cellTmp rfl (hF.2.2 4) (by simpa [Instr.loadAt, Instr.sureAddr] using load_pk hfin.1 hS.ok)) hF.1 ?_
                  rw [hF.2.2 5, Hq.out]
                  exact ⟨q, rfl, hS.ok, by rw [hS.len_drop]; exact hfin.2.1, hfin.2.2⟩
                · have hq := Hq1.out
                  simp only [hn, if_false] at hq
                  have Hq1' := Lib.hid hq
                  clear hq Hq1
                  have hnI : ¬ (l.length : Int) - (a2 : Int) < (x : Int) := by omega
                  go_wp2_with fail
                  refine wp_region_here (by kernel_rfl) (by kernel_rfl) ?_
                  (repeat (first | (apply wpR_pass rfl; (try simp only [Act.put, List.setIfInBounds_toArray, List.set_cons_succ, List.set_cons_zero])) | (apply wpR_val rfl; (focus (intro w1 hR; obtain ⟨hc, hf⟩ := bcellB hR; (try go_simp); (try exact Eq.refl _); done)); (try simp only [Act.put, List.setIfInBounds_toArray, List.set_cons_succ, List.set_cons_zero])) | (apply wpR_call rfl; (focus (intro w1 hR; obtain ⟨hc, hf⟩ := bcellB hR; (try go_simp); (try exact And.intro rfl rfl); done)); (focus (intro w1 hR; first | exact ().at_ (by first | omega | (simp; done) | (simp; omega)) hR)); (try simp only [Act.put, List.setIfInBounds_toArray, List.set_cons_succ, List.set_cons_zero])) | (apply wpR_val_want rfl; (focus (intro w1 hR; obtain ⟨hc, hf⟩ := bcellB hR; (try go_simp); (try exact Eq.refl _); done)); (try simp only [Act.put, List.setIfInBounds_toArray, List.set_cons_succ, List.set_cons_zero])) | (apply wpR_call_want rfl; (focus (intro w1 hR; obtain ⟨hc, hf⟩ := bcellB hR; (try go_simp); (try exact And.intro rfl rfl); done)); (focus (intro w1 hR; first | exact ().at_ (by first | omega | (simp; done) | (simp; omega)) hR)); (try simp only [Act.put, List.setIfInBounds_toArray, List.set_cons_succ, List.set_cons_zero]))))
                  refine wpR_nil ?_
                  intro w5 hb5
                  replace hS := hS.below hb5
                  clear hw1 hb5 h0 h1 hrlt hnI
                  go_upto_if 110 with fail
                  rename_i hnext
                  refine wp_cut (fun a' w' => ∃ pv, (∃ U : Nat → Value, a' = ⟨#[.pointer (some ⟨r, 0, none⟩), .int .i64 c, U 2, U 3, .pointer (some ⟨w.heap.size, 0, none⟩), .bool false, .pointer (some ⟨w.heap.size + 1, 0, none⟩), U 7, U 8, U 9, U 10, U 11, .int .i64 (x : Nat), U 13, U 14, U 15, U 16, U 17, U 18, U 19, U 20, U 21, U 22, U 23, U 24, U 25, U 26, U 27, U 28, U 29, U 30, U 31, U 32, U 33, U 34, U 35, U 36, U 37, U 38, U 39, U 40, U 41, U 42, U 43, U 44, U 45, U 46, U 47, U 48, U 49, U 50, U 51, U 52, U 53, U 54, U 55, U 56, U 57, U 58, U 59, U 60, U 61, U 62, U 63, U 64, U 65, U 66, U 67, U 68, U 69, U 70, U 71, U 72, U 73, U 74, U 75, U 76, U 77, U 78, U 79, U 80, U 81, U 82, U 83, U 84, U 85, U 86, U 87, U 88, U 89, U 90, U 91, U 92, U 93, U 94, U 95, U 96, U 97, U 98, U 99, U 100, U 101, U 102, U 103, U 104, U 105, U 106, U 107, U 108, U 109, U 110, U 111, U 112, U 113, U 114, U 115, U 116, U 117, U 118, U 119, U 120, U 121, U 122, U 123, U 124, U 125, U 126, U 127, U 128, U 129, U 130, U 131, U 132, U 133, U 134, U 135, U 136, U 137, U 138], []⟩) ∧ PkAt w' (w.heap.size + 1) { q with data := rest.take x } pv ∧ OB (w.heap.size + 2) w' pv (rest.take x) ∧ PkAt w' w.heap.size (Wi.Pk.zero 0) (.slice none 0 0) ∧ RRd w' r (.slice (some ⟨g, o, none⟩) l.length cp) a2 ∧ w.grownBy w' (some r)) ?_ ?_
                  · have hok0 := hS.ok
                    clear hS w5
                    rintro a w' ⟨pv, ⟨U, rfl⟩, hP, hd, hz, hR, hg⟩
                    refine hnext _ _ ?_
                    clear hnext
                    have h0 := hR.c0
                    have h1 := hR.c1
                    have hrlt := hR.lt
                    have hfz : w'.frozen? ⟨r, 1, none⟩ = false := by simp [World.frozen?, show w'.heap[r]? = _ from hR]
                    obtain ⟨a3, ha3⟩ : ∃ a3, a2 + x = a3 := ⟨_, rfl⟩
                    have hw2 : IntKind.i64.wrap ((a2 : Int) + (x : Int)) = (a3 : Int) := by rw [IntWalk.i64_in _ ⟨by omega, by omega⟩]; omega
                    go_upto_region 27 with fail
                    rename_i hnext
                    have hgs := setCells_grown w' r 1 [.int .i64 (a3 : Int)]
                    have hP2 : PkAt (w'.setCell ⟨r, 1, none⟩ (.int .i64 (a3 : Int))) (w.heap.size + 1) { q with data := rest.take x } pv := hP.grown hgs (fun e => by injection e; omega)
                    have hz2 : PkAt (w'.setCell ⟨r, 1, none⟩ (.int .i64 (a3 : Int))) w.heap.size (Wi.Pk.zero 0) (.slice none 0 0) := hz.grown hgs (fun e => by injection e; omega)
                    have hR2 : RRd (w'.setCell ⟨r, 1, none⟩ (.int .i64 (a3 : Int))) r (.slice (some ⟨g, o, none⟩) l.length cp) a3 := hR.set a3
                    have hd2 : OB (w.heap.size + 2) (w'.setCell ⟨r, 1, none⟩ (.int .i64 (a3 : Int))) pv (rest.take x) := hd.kept hgs (fun k e e' => by have := (hd.lt k e).1; injection e'; omega)
                    have hg2 : w.grownBy (w'.setCell ⟨r, 1, none⟩ (.int .i64 (a3 : Int))) (some r) := World.grownBy.trans hg hgs
                    generalize w'.setCell ⟨r, 1, none⟩ (.int .i64 (a3 : Int)) = w6 at *
                    have hok : ({ q with data := rest.take x } : Wi.Pk).Ok := { hok0 with data := by have := List.length_take_le x rest; simp only; omega }
                    have hone : pv.oneCell' = true := by
                      obtain ⟨dp, dc, e⟩ := hd2.rb.form
                      rw [e]; rfl
                    generalize hq' : ({ q with data := rest.take x } : Wi.Pk) = q' at *
                    clear h0 h1 hrlt hfz hw2 hP hz hR hd hgs
                    refine wp_region_lit ?_
                    refine Og.st_start (n := 139) rfl fun a hF => ?_
                    refine Og.st_same (.agg (pkL q' pv).toArray) hF rfl rfl (by decide) (Og.exec_load rfl (load_pk hP2 hok)) ?_
                    clear hF a; intro a hF
                    refine Og.st_skip (w' := _) hF rfl rfl (exec_store (o := 0) (vs := pkL q' pv) (cs := pkL (Wi.Pk.zero 0) (.slice none 0 0)) rfl rfl rfl hz2 (by rw [pkL_length hok, pkL_length (Wi.Pk.zero_ok 0)]; decide) (by rw [pkL_length hok]; exact pk_i) (pkL_one q' pv hone)) ?_
                    clear hF a; intro a hF
                    have hgs := setCells_grown w6 w.heap.size 0 (pkL q' pv)
                    have hz3 : PkAt (w6.setCells w.heap.size 0 (pkL q' pv)) w.heap.size q' pv := hz2.store 0 _ q' pv (set_all hok (Wi.Pk.zero_ok 0))
                    have hR3 : RRd (w6.setCells w.heap.size 0 (pkL q' pv)) r (.slice (some ⟨g, o, none⟩) l.length cp) a3 := blk_grown hR2 hgs (fun e => by injection e; omega)
                    have hd3 : OB (w.heap.size + 2) (w6.setCells w.heap.size 0 (pkL q' pv)) pv (rest.take x) := hd2.kept hgs (fun k e e' => by have := (hd2.lt k e).1; injection e'; omega)
                    have hg3 := grown_own hg2 hgs (Nat.le_refl _)
                    generalize w6.setCells w.heap.size 0 (pkL q' pv) = wf at *
                    refine Og.st_same (.bool true) hF rfl rfl (by decide) (by kernel_rfl) ?_
                    clear hF a; intro a hF
                    refine wpList_nil ?_
                    refine hnext _ _ (wp_ret ?_)
                    (try simp only [Exit.inBlock, Exit.then, Exit.inLoop])
                    refine bodyPost_ret (results_cellTmp rfl (hF.2.2 4) (by simpa [Instr.loadAt, Instr.sureAddr] using load_pk hz3 hok)) hF.1 ?_
                    rw [hF.2.2 5, Hq1'.out]
                    exact ⟨_, rfl, hok, by rw [← hq']; exact hd3.more (by omega), by rw [List.length_drop, show l.length - (rest.length - x) = a3 by omega]; exact hR3, hg3⟩
                  · intro J K' hJ hK'
                    have HJ := Lib.hid hJ
                    clear hJ
                    by_cases hx0 : x = 0
                    · subst hx0
                      have hgt : ¬ (0 : Int) < ((0 : Nat) : Int) := by decide
                      go_wp2_with fail
                      have eq0 : ({ q with data := rest.take 0 } : Wi.Pk) = q := by rw [List.take_zero, ← hS.data]
                      exact Met.intro (HJ.out _ _ ⟨.slice none 0 0, exU (fun U => ⟨#[.pointer (some ⟨r, 0, none⟩), .int .i64 c, U 2, U 3, .pointer (some ⟨w.heap.size, 0, none⟩), .bool false, .pointer (some ⟨w.heap.size + 1, 0, none⟩), U 7, U 8, U 9, U 10, U 11, .int .i64 (0 : Nat), U 13, U 14, U 15, U 16, U 17, U 18, U 19, U 20, U 21, U 22, U 23, U 24, U 25, U 26, U 27, U 28, U 29, U 30, U 31, U 32, U 33, U 34, U 35, U 36, U 37, U 38, U 39, U 40, U 41, U 42, U 43, U 44, U 45, U 46, U 47, U 48, U 49, U 50, U 51, U 52, U 53, U 54, U 55, U 56, U 57, U 58, U 59, U 60, U 61, U 62, U 63, U 64, U 65, U 66, U 67, U 68, U 69, U 70, U 71, U 72, U 73, U 74, U 75, U 76, U 77, U 78, U 79, U 80, U 81, U 82, U 83, U 84, U 85, U 86, U 87, U 88, U 89, U 90, U 91, U 92, U 93, U 94, U 95, U 96, U 97, U 98, U 99, U 100, U 101, U 102, U 103, U 104, U 105, U 106, U 107, U 108, U 109, U 110, U 111, U 112, U 113, U 114, U 115, U 116, U 117, U 118, U 119, U 120, U 121, U 122, U 123, U 124, U 125, U 126, U 127, U 128, U 129, U 130, U 131, U 132, U 133, U 134, U 135, U 136, U 137, U 138], []⟩) rfl, by rw [eq0]; exact hS.p, by rw [List.take_zero]; exact OB.nil_ _ _, hS.z, hS.rd, hS.g⟩)
                    · have hgt : (0 : Int) < (x : Int) := by omega
                      go_upto_region 25 with fail
                      rename_i hnext
                      have hsz := hS.size
                      have hg5 := hS.g
                      have hrb := Hrb.out _ hS.g
                      have hp5 := hS.p
                      have hz5 := hS.z
                      have hr5 := hS.rd
                      have hok := hS.ok
                      obtain ⟨a3, ha3⟩ : ∃ a3, a2 + x = a3 := ⟨_, rfl⟩
                      have hw2 : IntKind.i64.wrap ((a2 : Int) + (x : Int)) = (a3 : Int) := by rw [IntWalk.i64_in _ ⟨by omega, by omega⟩]; omega
                      have hi1 : (0 : Int) ≤ (a2 : Int) := by omega
                      have hi2 : (a2 : Int) ≤ (a3 : Int) := by omega
                      have hi3 : (a3 : Int) ≤ (cp : Int) := by omega
                      have hmx : maxLen = 9223372036854775807 := rfl
                      have hlg : g < w.heap.size := Hgl.out (by intro e; have := congrArg List.length e; simp only [List.length_nil] at this; omega)
                      have hsub : a3 - a2 = x := by omega
                      have hcne : ¬ cp = a2 := by omega
                      generalize hG : w5.heap.size = G at *
                      refine Og.wp_region_og _ (fun j => j == 18)
                        (Og.Vt [undef, .pointer (some ⟨r, 0, none⟩), .pointer (some ⟨r, 0, none⟩), .pointer (some ⟨r, 0, none⟩), .slice (some ⟨g, o, none⟩) l.length cp, .pointer (some ⟨r, 0, none⟩), .pointer (some ⟨r, 0, none⟩), .pointer (some ⟨r, 1, none⟩), .int .i64 (a2 : Nat), .pointer (some ⟨r, 0, none⟩), .pointer (some ⟨r, 0, none⟩), .pointer (some ⟨r, 1, none⟩), .int .i64 (a2 : Nat), .int .i64 (x : Nat), .int .i64 (a3 : Nat), .slice (some ⟨g, o + a2, none⟩) x (cp - a2), undef, .pointer (some ⟨w.heap.size + 1, 42, none⟩), undef] [(0, fun u w' => OB G w' u []), (16, fun u w' => OB G w' u (rest.take x)), (18, fun _ w' => ∃ pv, PkAt w' (w.heap.size + 1) { q with data := rest.take x } pv ∧ OB G w' pv (rest.take x))])
                        (fun w' => RRd w' r (.slice (some ⟨g, o, none⟩) l.length cp) a2 ∧ RB w' (.slice (some ⟨g, o, none⟩) l.length cp) l ∧ PkAt w' w.heap.size (Wi.Pk.zero 0) (.slice none 0 0) ∧ w.grownBy w' (some r) ∧ G ≤ w'.heap.size)
                        (fun j w' => j = 18 → PkAt w' (w.heap.size + 1) q (.slice none 0 0)) 139 rfl (by kernel_rfl) (by kernel_rfl) ?_ (fun _ _ _ => hp5.below (Below.drew (Below.refl _ _))) (Og.allOps ⟨?_, ?_, ?_, ?_, ?_, ?_, ?_, ?_, ?_, ?_, ?_, ?_, ?_, ?_, ?_, ?_, ?_, ?_, ?_, trivial⟩) ?_
                      · have hdw : Below w5.heap.size w5 { w5 with drawn := w5.drawn + 1 } := Below.drew (Below.refl _ _)
                        exact ⟨hr5.below hdw, hrb.below hdw, hz5.below hdw, World.grownBy.trans hg5 (below_grown hdw), Nat.le_of_eq hG.symm⟩
                      · refine Og.ok_wval _ rfl fun φ w6 hA => ?_
                        obtain ⟨hrk, hbk, hzk, hgk, hGk⟩ := hA.keep
                        have hb := below_alloc1 w6 (.cells #[] 5)
                        refine ⟨.slice (some ⟨w6.heap.size, 0, none⟩) 0 0, w6.alloc (.cells #[] 5), build_none rfl w6, ⟨hrk.below hb, hbk.below hb, hzk.below hb, World.grownBy.trans hgk (below_grown hb), Nat.le_trans hGk hb.size⟩, OB.new w6 #[] [] rfl (Nat.zero_le _) hGk, fun j hj hT hj2 => (hT hj2).below hb, fun y hy hn u hu => ?_⟩
                        simp only [List.mem_cons, List.not_mem_nil, or_false] at hy
                        rcases hy with rfl | rfl | rfl
                        · exact hu.below hb
                        · exact hu.below hb
                        · obtain ⟨pv, h1, h2⟩ := hu; exact ⟨pv, h1.below hb, h2.below hb⟩
                      · refine Og.ok_val _ rfl rfl fun φ w6 hA => ?_
                        have e0 : φ 0 = .pointer (some ⟨r, 0, none⟩) := hA.old 0 (by kernel_rfl)
                        simp only [execOp, Og.ev, e0]
                        go_simp
                      · refine Og.ok_val _ rfl rfl fun φ w6 hA => ?_
                        have e112 : φ 112 = .pointer (some ⟨r, 0, none⟩) := hA.of 1 (d := 112) (by simp) rfl rfl
                        simp only [execOp, Og.ev, e112]
                        go_simp
                      · refine Og.ok_val _ rfl rfl fun φ w6 hA => ?_
                        have e113 : φ 113 = .pointer (some ⟨r, 0, none⟩) := hA.of 2 (d := 113) (by simp) rfl rfl
                        simp only [execOp, Og.ev, e113]
                        go_simp
                      · refine Og.ok_val _ rfl rfl fun φ w6 hA => ?_
                        have e114 : φ 114 = .pointer (some ⟨r, 0, none⟩) := hA.of 3 (d := 114) (by simp) rfl rfl
                        have h0 := hA.keep.1.c0
                        simp only [execOp, Og.ev, e114]
                        go_simp
                      · refine Og.ok_val _ rfl rfl fun φ w6 hA => ?_
                        have e0 : φ 0 = .pointer (some ⟨r, 0, none⟩) := hA.old 0 (by kernel_rfl)
                        simp only [execOp, Og.ev, e0]
                        go_simp
                      · refine Og.ok_val _ rfl rfl fun φ w6 hA => ?_
                        have e116 : φ 116 = .pointer (some ⟨r, 0, none⟩) := hA.of 5 (d := 116) (by simp) rfl rfl
                        simp only [execOp, Og.ev, e116]
                        go_simp
                      · refine Og.ok_val _ rfl rfl fun φ w6 hA => ?_
                        have e117 : φ 117 = .pointer (some ⟨r, 0, none⟩) := hA.of 6 (d := 117) (by simp) rfl rfl
                        simp only [execOp, Og.ev, e117]
                        go_simp
                      · refine Og.ok_val _ rfl rfl fun φ w6 hA => ?_
                        have e118 : φ 118 = .pointer (some ⟨r, 1, none⟩) := hA.of 7 (d := 118) (by simp) rfl rfl
                        have h1 := hA.keep.1.c1
                        simp only [execOp, Og.ev, e118]
                        go_simp
                      · refine Og.ok_val _ rfl rfl fun φ w6 hA => ?_
                        have e0 : φ 0 = .pointer (some ⟨r, 0, none⟩) := hA.old 0 (by kernel_rfl)
                        simp only [execOp, Og.ev, e0]
                        go_simp
                      · refine Og.ok_val _ rfl rfl fun φ w6 hA => ?_
                        have e120 : φ 120 = .pointer (some ⟨r, 0, none⟩) := hA.of 9 (d := 120) (by simp) rfl rfl
                        simp only [execOp, Og.ev, e120]
                        go_simp
                      · refine Og.ok_val _ rfl rfl fun φ w6 hA => ?_
                        have e121 : φ 121 = .pointer (some ⟨r, 0, none⟩) := hA.of 10 (d := 121) (by simp) rfl rfl
                        simp only [execOp, Og.ev, e121]
                        go_simp
                      · refine Og.ok_val _ rfl rfl fun φ w6 hA => ?_
                        have e122 : φ 122 = .pointer (some ⟨r, 1, none⟩) := hA.of 11 (d := 122) (by simp) rfl rfl
                        have h1 := hA.keep.1.c1
                        simp only [execOp, Og.ev, e122]
                        go_simp
                      · refine Og.ok_val _ rfl rfl fun φ w6 hA => ?_
                        have e12 : φ 12 = .int .i64 (x : Nat) := hA.old 12 (by kernel_rfl)
                        simp only [execOp, Og.ev, e12]
                        go_simp
                      · refine Og.ok_val _ rfl rfl fun φ w6 hA => ?_
                        have e123 : φ 123 = .int .i64 (a2 : Nat) := hA.of 12 (d := 123) (by simp) rfl rfl
                        have e124 : φ 124 = .int .i64 (x : Nat) := hA.of 13 (d := 124) (by simp) rfl rfl
                        simp only [execOp, Og.ev, e123, e124]
                        go_simp
                      · refine Og.ok_val _ rfl rfl fun φ w6 hA => ?_
                        have e115 : φ 115 = .slice (some ⟨g, o, none⟩) l.length cp := hA.of 4 (d := 115) (by simp) rfl rfl
                        have e119 : φ 119 = .int .i64 (a2 : Nat) := hA.of 8 (d := 119) (by simp) rfl rfl
                        have e125 : φ 125 = .int .i64 (a3 : Nat) := hA.of 14 (d := 125) (by simp) rfl rfl
                        simp only [execOp]
                        go_simp
                        simp only [Og.ev, e115, e119, e125]
                        go_simp
                      · refine Og.ok_wval _ rfl fun φ w6 hA => ?_
                        have hob : OB G w6 (φ 111) [] := hA.of 0 (d := 111) (by simp) rfl rfl
                        have e15 : φ 126 = .slice (some ⟨g, o + a2, none⟩) x (cp - a2) := hA.of 15 (d := 126) (by simp) rfl rfl
                        obtain ⟨hrk, hbk, hzk, hgk, hGk⟩ := hA.keep
                        have hsb := hbk.sub a2 x (cp - a2) (by omega) (by omega) (by omega)
                        rw [Hdr.out] at hsb
                        obtain ⟨u, w7, hrun, hu, hg, hat⟩ := run_append_OB hob hsb (by have := List.length_take_le x rest; simp only [List.length_nil]; omega) hGk
                        have hne : ∀ k, k < G → (φ 111).ownBlock ≠ some k := fun k hk => hob.ne hk
                        refine ⟨u, w7, ?_, ⟨blk_grown hrk hg (hne r (by omega)), hbk.grown hg (fun _ g' e => by cases e; exact hne g (by omega)), hzk.grown hg (hne _ (by omega)), grown_any hgk hg (fun k e => by have := (hob.lt k e).1; omega), Nat.le_trans hGk hg.size⟩, hu, fun j hj hT hj2 => (hT hj2).grown hg (hne _ (by omega)), fun y hy hn u' hu' => ?_⟩
                        · exact Og.exec_append rfl (by simp only [Og.ev]; rw [e15]; exact hrun)
                        · simp only [List.mem_cons, List.not_mem_nil, or_false] at hy
                          rcases hy with rfl | rfl | rfl
                          · exact absurd hn (Bool.eq_false_iff.1 (by kernel_rfl))
                          · exact absurd hn (Bool.eq_false_iff.1 (by kernel_rfl))
                          · exact absurd hn (Bool.eq_false_iff.1 (by kernel_rfl))
                      · refine Og.ok_val _ rfl rfl fun φ w6 hA => ?_
                        have e6 : φ 6 = .pointer (some ⟨w.heap.size + 1, 0, none⟩) := hA.old 6 (by kernel_rfl)
                        simp only [execOp, Og.ev, e6]
                        go_simp
                      · refine Og.ok_wskip _ rfl fun φ w6 hA => ?_
                        have hob : OB G w6 (φ 127) (rest.take x) := hA.of 16 (d := 127) (by simp) rfl rfl
                        have e17 : φ 128 = .pointer (some ⟨w.heap.size + 1, 42, none⟩) := hA.of 17 (d := 128) (by simp) rfl rfl
                        have hpk : PkAt w6 (w.heap.size + 1) q (.slice none 0 0) := hA.tok rfl
                        obtain ⟨hrk, hbk, hzk, hgk, hGk⟩ := hA.keep
                        obtain ⟨dp, dc, hdv⟩ := hob.rb.form
                        have h1c : (φ 127).oneCell' = true := by rw [hdv]; rfl
                        have hg := setCells_grown w6 (w.heap.size + 1) 42 [φ 127]
                        refine ⟨w6.setCells (w.heap.size + 1) 42 [φ 127], exec_store (o := 42) (vs := [φ 127]) (cs := pkL q (.slice none 0 0)) rfl (by simp only [Og.ev]; exact e17) (by simp only [Og.ev]; rw [hdv]; rfl) hpk (by rw [pkL_length hok]; exact Nat.le_refl 43) (by kernel_rfl) (slice_one _ h1c), ⟨blk_grown hrk hg (fun e => by injection e; omega), hbk.grown hg (fun _ g' e e' => by have h1 : some g = some g' := e; injection h1 with h1; injection e' with e'; omega), hzk.grown hg (fun e => by injection e; omega), grown_own hgk hg (by omega), Nat.le_trans hGk hg.size⟩, ⟨φ 127, hpk.store 42 _ _ _ (set_data q _ _ (rest.take x) hok), hob.kept hg (fun k e e' => by have := (hob.lt k e).1; injection e'; omega)⟩, fun j hj hT hj2 => absurd (hj2 ▸ hj) (Bool.eq_false_iff.1 (by kernel_rfl)), fun y hy hn u' hu' => ?_⟩
                        simp only [List.mem_cons, List.not_mem_nil, or_false] at hy
                        rcases hy with rfl | rfl | rfl
                        · exact hu'.kept hg (fun k e e' => by have := (hu'.lt k e).1; injection e'; omega)
                        · exact absurd hn (Bool.eq_false_iff.1 (by kernel_rfl))
                        · exact absurd hn (Bool.eq_false_iff.1 (by kernel_rfl))
                      · intro φ a w6 hF hR h0 hV hN
                        obtain ⟨_, pv, hP6, hd6⟩ := hN 18 _ rfl rfl rfl
                        obtain ⟨hrk, hbk, hzk, hgk, hGk⟩ := hR
                        have e0 : φ 0 = .pointer (some ⟨r, 0, none⟩) := h0 0 (by kernel_rfl)
                        have e1 : φ 1 = .int .i64 c := h0 1 (by kernel_rfl)
                        have e4 : φ 4 = .pointer (some ⟨w.heap.size, 0, none⟩) := h0 4 (by kernel_rfl)
                        have e5 : φ 5 = .bool false := h0 5 (by kernel_rfl)
                        have e6 : φ 6 = .pointer (some ⟨w.heap.size + 1, 0, none⟩) := h0 6 (by kernel_rfl)
                        have e12 : φ 12 = .int .i64 (x : Nat) := h0 12 (by kernel_rfl)
                        have ea : ∃ U : Nat → Value, a = ⟨#[.pointer (some ⟨r, 0, none⟩), .int .i64 c, U 2, U 3, .pointer (some ⟨w.heap.size, 0, none⟩), .bool false, .pointer (some ⟨w.heap.size + 1, 0, none⟩), U 7, U 8, U 9, U 10, U 11, .int .i64 (x : Nat), U 13, U 14, U 15, U 16, U 17, U 18, U 19, U 20, U 21, U 22, U 23, U 24, U 25, U 26, U 27, U 28, U 29, U 30, U 31, U 32, U 33, U 34, U 35, U 36, U 37, U 38, U 39, U 40, U 41, U 42, U 43, U 44, U 45, U 46, U 47, U 48, U 49, U 50, U 51, U 52, U 53, U 54, U 55, U 56, U 57, U 58, U 59, U 60, U 61, U 62, U 63, U 64, U 65, U 66, U 67, U 68, U 69, U 70, U 71, U 72, U 73, U 74, U 75, U 76, U 77, U 78, U 79, U 80, U 81, U 82, U 83, U 84, U 85, U 86, U 87, U 88, U 89, U 90, U 91, U 92, U 93, U 94, U 95, U 96, U 97, U 98, U 99, U 100, U 101, U 102, U 103, U 104, U 105, U 106, U 107, U 108, U 109, U 110, U 111, U 112, U 113, U 114, U 115, U 116, U 117, U 118, U 119, U 120, U 121, U 122, U 123, U 124, U 125, U 126, U 127, U 128, U 129, U 130, U 131, U 132, U 133, U 134, U 135, U 136, U 137, U 138], []⟩ := ⟨φ, by
                          rw [hF.lit_eq, show ((List.range 139).map φ).toArray = #[φ 0, φ 1, φ 2, φ 3, φ 4, φ 5, φ 6, φ 7, φ 8, φ 9, φ 10, φ 11, φ 12, φ 13, φ 14, φ 15, φ 16, φ 17, φ 18, φ 19, φ 20, φ 21, φ 22, φ 23, φ 24, φ 25, φ 26, φ 27, φ 28, φ 29, φ 30, φ 31, φ 32, φ 33, φ 34, φ 35, φ 36, φ 37, φ 38, φ 39, φ 40, φ 41, φ 42, φ 43, φ 44, φ 45, φ 46, φ 47, φ 48, φ 49, φ 50, φ 51, φ 52, φ 53, φ 54, φ 55, φ 56, φ 57, φ 58, φ 59, φ 60, φ 61, φ 62, φ 63, φ 64, φ 65, φ 66, φ 67, φ 68, φ 69, φ 70, φ 71, φ 72, φ 73, φ 74, φ 75, φ 76, φ 77, φ 78, φ 79, φ 80, φ 81, φ 82, φ 83, φ 84, φ 85, φ 86, φ 87, φ 88, φ 89, φ 90, φ 91, φ 92, φ 93, φ 94, φ 95, φ 96, φ 97, φ 98, φ 99, φ 100, φ 101, φ 102, φ 103, φ 104, φ 105, φ 106, φ 107, φ 108, φ 109, φ 110, φ 111, φ 112, φ 113, φ 114, φ 115, φ 116, φ 117, φ 118, φ 119, φ 120, φ 121, φ 122, φ 123, φ 124, φ 125, φ 126, φ 127, φ 128, φ 129, φ 130, φ 131, φ 132, φ 133, φ 134, φ 135, φ 136, φ 137, φ 138] by kernel_rfl, e0, e1, e4, e5, e6, e12]⟩
                        exact hK' _ _ (Met.intro (HJ.out _ _ ⟨pv, ea, hP6, hd6.more (by omega), hzk, hrk, hgk⟩))
        · intro J K' hJ hK'
          cases hh : Wi.rHas c 64
          · have hq := Hq0.out
            rw [hh, if_neg (by decide)] at hq
            have Hq := Lib.hid hq
            clear hq Hq0
            go_wp2_with fail
            exact Met.intro (hJ _ _ ⟨true, q, at_, exU (fun U => ⟨#[.pointer (some ⟨r, 0, none⟩), .int .i64 c, U 2, U 3, .pointer (some ⟨w.heap.size, 0, none⟩), .bool false, .pointer (some ⟨w.heap.size + 1, 0, none⟩), U 7, U 8, U 9, U 10, .bool true, U 12, U 13, U 14, U 15, U 16, U 17, U 18, U 19, U 20, U 21, U 22, U 23, U 24, U 25, U 26, U 27, U 28, U 29, U 30, U 31, U 32, U 33, U 34, U 35, U 36, U 37, U 38, U 39, U 40, U 41, U 42, U 43, U 44, U 45, U 46, U 47, U 48, U 49, U 50, U 51, U 52, U 53, U 54, U 55, U 56, U 57, U 58, U 59, U 60, U 61, U 62, U 63, U 64, U 65, U 66, U 67, U 68, U 69, U 70, U 71, U 72, U 73, U 74, U 75, U 76, U 77, U 78, U 79, U 80, U 81, U 82, U 83, U 84, U 85, U 86, U 87, U 88, U 89, U 90, U 91, U 92, U 93, U 94, U 95, U 96, U 97, U 98, U 99, U 100, U 101, U 102, U 103, U 104, U 105, U 106, U 107, U 108, U 109, U 110, U 111, U 112, U 113, U 114, U 115, U 116, U 117, U 118, U 119, U 120, U 121, U 122, U 123, U 124, U 125, U 126, U 127, U 128, U 129, U 130, U 131, U 132, U 133, U 134, U 135, U 136, U 137, U 138], []⟩) rfl, hS, by rw [if_pos rfl]; exact Hq.out⟩)
          · have hq := Hq0.out
            rw [hh, if_pos rfl] at hq
            have Hq1 := Lib.hid hq
            have HJ := Lib.hid hJ
            clear hq Hq0 hJ
            cases h15 : ((c : Int) == 15)
            ·
              go_upto_region 15 with fail
              refine wp_region_lit ?_
              refine Og.st_start (n := 139) rfl fun a hF => ?_
              refine Og.st_same (.pointer (some ⟨r, 0, none⟩)) hF rfl rfl (by decide) (by kernel_rfl) ?_
              clear hF a; intro a hF
              refine Og.st_same (.int .i64 c) hF rfl rfl (by decide) (by kernel_rfl) ?_
              clear hF a; intro a hF
              refine Og.st_same (.bool ((c : Int) == 15)) hF rfl rfl (by decide) (by kernel_rfl) ?_
              clear hF a; intro a hF
              rw [h15] at hF
              refine Og.st_same (.bool false) hF rfl rfl (by decide) (by kernel_rfl) ?_
              clear hF a; intro a hF
              refine Og.st_pass hF (by kernel_rfl) rfl (by decide) ?_
              clear hF a; intro a hF
              refine Og.st_pass hF (by kernel_rfl) rfl (by decide) ?_
              clear hF a; intro a hF
              refine Og.st_pass hF (by kernel_rfl) rfl (by decide) ?_
              clear hF a; intro a hF
              refine Og.st_same (.bool false) hF rfl rfl (by decide) (by kernel_rfl) ?_
              clear hF a; intro a hF
              have hz : (decide (c = 15) && decide (q.flags = 1)) = false := by rw [decide_eq_false (by simp at h15; omega)]; rfl
              refine Og.st_call (f := 93) (args := #[.pointer (some ⟨r, 0, none⟩), .bool false]) hF rfl rfl (by decide) ((Og.exec_call rfl rsum_enter rfl _).trans (by kernel_rfl)) ((rsum_calls false hS.rd (Hrb.out _ hS.g) hgr hS.le hl).mono ?_)
              intro e w3 hpost
              obtain ⟨s, t, rest, hs, rfl, hR3, hg3, hqq⟩ := hpost.form
              refine ⟨_, rfl, ?_⟩
              clear hF a; intro a hF
              have hsuf : rest <:+ l.drop at_ := by
                have := Wi.rdSum_suffix false 32 (l.drop at_)
                rw [hqq] at this
                cases t <;> exact this
              have hdr := Wi.drop_of_suffix hsuf
              have hq := Hq1.out
              rw [hz, hqq] at hq
              replace hS := hS.read hrl hg3 hR3 (Nat.sub_le _ _)
              clear Hq1 hz hqq hpost hsuf
              refine Og.st_same (.tuple #[.agg (s.map bv).toArray, .bool t]) hF rfl rfl (by decide) (by kernel_rfl) ?_
              clear hF a; intro a hF
              refine Og.st_same (.agg (s.map bv).toArray) hF rfl rfl (by decide) (by kernel_rfl) ?_
              clear hF a; intro a hF
              refine Og.st_same (.bool t) hF rfl rfl (by decide) (by kernel_rfl) ?_
              clear hF a; intro a hF
              refine Og.st_same (.pointer (some ⟨w.heap.size + 1, 10, none⟩)) hF rfl rfl (by decide) (by kernel_rfl) ?_
              clear hF a; intro a hF
              refine Og.st_skip (w' := w3.setCells (w.heap.size + 1) 10 (s.map bv)) hF rfl rfl
                (exec_store (o := 10) (vs := s.map bv) (cs := pkL q (.slice none 0 0)) rfl rfl rfl hS.p (by rw [pkL_length hS.ok, List.length_map, hs]; decide) (by rw [List.length_map, hs]; exact s32_sz) (bvs_one s)) ?_
              clear hF a; intro a hF
              replace hS := hS.put hrl 10 (s.map bv) _ (set_sum q _ s (by rw [hS.ok.sum, hs])) { hS.ok with sum := hs } hS.cmd hS.data
              generalize w3.setCells (w.heap.size + 1) 10 (s.map bv) = w6 at *
              refine Og.st_same (.bool t) hF rfl rfl (by decide) (by kernel_rfl) ?_
              clear hF a; intro a hF
              refine wpList_nil ?_
              obtain ⟨U, rfl⟩ := Og.Fr.lit_ex hF (fun U => ⟨#[.pointer (some ⟨r, 0, none⟩), .int .i64 c, U 2, U 3, .pointer (some ⟨w.heap.size, 0, none⟩), .bool false, .pointer (some ⟨w.heap.size + 1, 0, none⟩), U 7, U 8, U 9, U 10, .bool t, U 12, U 13, U 14, U 15, U 16, U 17, U 18, U 19, U 20, U 21, U 22, U 23, U 24, U 25, U 26, U 27, U 28, U 29, U 30, U 31, U 32, U 33, U 34, U 35, U 36, U 37, U 38, U 39, U 40, U 41, U 42, U 43, U 44, U 45, U 46, U 47, U 48, U 49, U 50, U 51, U 52, U 53, U 54, U 55, U 56, U 57, U 58, U 59, U 60, U 61, U 62, U 63, U 64, U 65, U 66, U 67, U 68, U 69, U 70, U 71, U 72, U 73, U 74, U 75, U 76, U 77, U 78, U 79, U 80, U 81, U 82, U 83, U 84, U 85, U 86, U 87, U 88, U 89, U 90, U 91, U 92, U 93, U 94, U 95, U 96, U 97, U 98, U 99, U 100, U 101, U 102, U 103, U 104, U 105, U 106, U 107, U 108, U 109, U 110, U 111, U 112, U 113, U 114, U 115, U 116, U 117, U 118, U 119, U 120, U 121, U 122, U 123, U 124, U 125, U 126, U 127, U 128, U 129, U 130, U 131, U 132, U 133, U 134, U 135, U 136, U 137, U 138], []⟩) (by kernel_rfl)
              refine hK' _ _ (Met.intro (HJ.out _ _ ⟨t, _, _, ⟨U, rfl⟩, hS, ?_⟩))
              rw [hdr, hq]
              cases t <;> rfl
            · cases hfl : (((q.flags : Nat) : Int) == 1)
              ·
                go_upto_region 15 with fail
                refine wp_region_lit ?_
                refine Og.st_start (n := 139) rfl fun a hF => ?_
                refine Og.st_same (.pointer (some ⟨r, 0, none⟩)) hF rfl rfl (by decide) (by kernel_rfl) ?_
                clear hF a; intro a hF
                refine Og.st_same (.int .i64 c) hF rfl rfl (by decide) (by kernel_rfl) ?_
                clear hF a; intro a hF
                refine Og.st_same (.bool ((c : Int) == 15)) hF rfl rfl (by decide) (by kernel_rfl) ?_
                clear hF a; intro a hF
                rw [h15] at hF
                refine Og.st_same (.bool true) hF rfl rfl (by decide) (by kernel_rfl) ?_
                clear hF a; intro a hF
                refine Og.st_same_g (.pointer (some ⟨w.heap.size + 1, 5, none⟩)) hF (by kernel_rfl) rfl (by decide) (by kernel_rfl) ?_
                clear hF a; intro a hF
                refine Og.st_same_g (.int .u32 q.flags) hF (by kernel_rfl) rfl (by decide) (Og.exec_load rfl (ld_u32 hS.p.c5)) ?_
                clear hF a; intro a hF
                refine Og.st_same_g (.bool (((q.flags : Nat) : Int) == 1)) hF (by kernel_rfl) rfl (by decide) (by kernel_rfl) ?_
                clear hF a; intro a hF
                rw [hfl] at hF
                refine Og.st_same (.bool false) hF rfl rfl (by decide) (by kernel_rfl) ?_
                clear hF a; intro a hF
                have hz : (decide (c = 15) && decide (q.flags = 1)) = false := by rw [Bool.and_comm, decide_eq_false (by simp at hfl; omega)]; rfl
                refine Og.st_call (f := 93) (args := #[.pointer (some ⟨r, 0, none⟩), .bool false]) hF rfl rfl (by decide) ((Og.exec_call rfl rsum_enter rfl _).trans (by kernel_rfl)) ((rsum_calls false hS.rd (Hrb.out _ hS.g) hgr hS.le hl).mono ?_)
                intro e w3 hpost
                obtain ⟨s, t, rest, hs, rfl, hR3, hg3, hqq⟩ := hpost.form
                refine ⟨_, rfl, ?_⟩
                clear hF a; intro a hF
                have hsuf : rest <:+ l.drop at_ := by
                  have := Wi.rdSum_suffix false 32 (l.drop at_)
                  rw [hqq] at this
                  cases t <;> exact this
                have hdr := Wi.drop_of_suffix hsuf
                have hq := Hq1.out
                rw [hz, hqq] at hq
                replace hS := hS.read hrl hg3 hR3 (Nat.sub_le _ _)
                clear Hq1 hz hqq hpost hsuf
                refine Og.st_same (.tuple #[.agg (s.map bv).toArray, .bool t]) hF rfl rfl (by decide) (by kernel_rfl) ?_
                clear hF a; intro a hF
                refine Og.st_same (.agg (s.map bv).toArray) hF rfl rfl (by decide) (by kernel_rfl) ?_
                clear hF a; intro a hF
                refine Og.st_same (.bool t) hF rfl rfl (by decide) (by kernel_rfl) ?_
                clear hF a; intro a hF
                refine Og.st_same (.pointer (some ⟨w.heap.size + 1, 10, none⟩)) hF rfl rfl (by decide) (by kernel_rfl) ?_
                clear hF a; intro a hF
                refine Og.st_skip (w' := w3.setCells (w.heap.size + 1) 10 (s.map bv)) hF rfl rfl
                  (exec_store (o := 10) (vs := s.map bv) (cs := pkL q (.slice none 0 0)) rfl rfl rfl hS.p (by rw [pkL_length hS.ok, List.length_map, hs]; decide) (by rw [List.length_map, hs]; exact s32_sz) (bvs_one s)) ?_
                clear hF a; intro a hF
                replace hS := hS.put hrl 10 (s.map bv) _ (set_sum q _ s (by rw [hS.ok.sum, hs])) { hS.ok with sum := hs } hS.cmd hS.data
                generalize w3.setCells (w.heap.size + 1) 10 (s.map bv) = w6 at *
                refine Og.st_same (.bool t) hF rfl rfl (by decide) (by kernel_rfl) ?_
                clear hF a; intro a hF
                refine wpList_nil ?_
                obtain ⟨U, rfl⟩ := Og.Fr.lit_ex hF (fun U => ⟨#[.pointer (some ⟨r, 0, none⟩), .int .i64 c, U 2, U 3, .pointer (some ⟨w.heap.size, 0, none⟩), .bool false, .pointer (some ⟨w.heap.size + 1, 0, none⟩), U 7, U 8, U 9, U 10, .bool t, U 12, U 13, U 14, U 15, U 16, U 17, U 18, U 19, U 20, U 21, U 22, U 23, U 24, U 25, U 26, U 27, U 28, U 29, U 30, U 31, U 32, U 33, U 34, U 35, U 36, U 37, U 38, U 39, U 40, U 41, U 42, U 43, U 44, U 45, U 46, U 47, U 48, U 49, U 50, U 51, U 52, U 53, U 54, U 55, U 56, U 57, U 58, U 59, U 60, U 61, U 62, U 63, U 64, U 65, U 66, U 67, U 68, U 69, U 70, U 71, U 72, U 73, U 74, U 75, U 76, U 77, U 78, U 79, U 80, U 81, U 82, U 83, U 84, U 85, U 86, U 87, U 88, U 89, U 90, U 91, U 92, U 93, U 94, U 95, U 96, U 97, U 98, U 99, U 100, U 101, U 102, U 103, U 104, U 105, U 106, U 107, U 108, U 109, U 110, U 111, U 112, U 113, U 114, U 115, U 116, U 117, U 118, U 119, U 120, U 121, U 122, U 123, U 124, U 125, U 126, U 127, U 128, U 129, U 130, U 131, U 132, U 133, U 134, U 135, U 136, U 137, U 138], []⟩) (by kernel_rfl)
                refine hK' _ _ (Met.intro (HJ.out _ _ ⟨t, _, _, ⟨U, rfl⟩, hS, ?_⟩))
                rw [hdr, hq]
                cases t <;> rfl
              ·
                go_upto_region 15 with fail
                refine wp_region_lit ?_
                refine Og.st_start (n := 139) rfl fun a hF => ?_
                refine Og.st_same (.pointer (some ⟨r, 0, none⟩)) hF rfl rfl (by decide) (by kernel_rfl) ?_
                clear hF a; intro a hF
                refine Og.st_same (.int .i64 c) hF rfl rfl (by decide) (by kernel_rfl) ?_
                clear hF a; intro a hF
                refine Og.st_same (.bool ((c : Int) == 15)) hF rfl rfl (by decide) (by kernel_rfl) ?_
                clear hF a; intro a hF
                rw [h15] at hF
                refine Og.st_same (.bool true) hF rfl rfl (by decide) (by kernel_rfl) ?_
                clear hF a; intro a hF
                refine Og.st_same_g (.pointer (some ⟨w.heap.size + 1, 5, none⟩)) hF (by kernel_rfl) rfl (by decide) (by kernel_rfl) ?_
                clear hF a; intro a hF
                refine Og.st_same_g (.int .u32 q.flags) hF (by kernel_rfl) rfl (by decide) (Og.exec_load rfl (ld_u32 hS.p.c5)) ?_
                clear hF a; intro a hF
                refine Og.st_same_g (.bool (((q.flags : Nat) : Int) == 1)) hF (by kernel_rfl) rfl (by decide) (by kernel_rfl) ?_
                clear hF a; intro a hF
                rw [hfl] at hF
                refine Og.st_same (.bool true) hF rfl rfl (by decide) (by kernel_rfl) ?_
                clear hF a; intro a hF
                have hz : (decide (c = 15) && decide (q.flags = 1)) = true := by rw [decide_eq_true (by simp at h15; omega), decide_eq_true (by simp at hfl; omega)]; rfl
                refine Og.st_call (f := 93) (args := #[.pointer (some ⟨r, 0, none⟩), .bool true]) hF rfl rfl (by decide) ((Og.exec_call rfl rsum_enter rfl _).trans (by kernel_rfl)) ((rsum_calls true hS.rd (Hrb.out _ hS.g) hgr hS.le hl).mono ?_)
                intro e w3 hpost
                obtain ⟨s, t, rest, hs, rfl, hR3, hg3, hqq⟩ := hpost.form
                refine ⟨_, rfl, ?_⟩
                clear hF a; intro a hF
                have hsuf : rest <:+ l.drop at_ := by
                  have := Wi.rdSum_suffix true 32 (l.drop at_)
                  rw [hqq] at this
                  cases t <;> exact this
                have hdr := Wi.drop_of_suffix hsuf
                have hq := Hq1.out
                rw [hz, hqq] at hq
                replace hS := hS.read hrl hg3 hR3 (Nat.sub_le _ _)
                clear Hq1 hz hqq hpost hsuf
                refine Og.st_same (.tuple #[.agg (s.map bv).toArray, .bool t]) hF rfl rfl (by decide) (by kernel_rfl) ?_
                clear hF a; intro a hF
                refine Og.st_same (.agg (s.map bv).toArray) hF rfl rfl (by decide) (by kernel_rfl) ?_
                clear hF a; intro a hF
                refine Og.st_same (.bool t) hF rfl rfl (by decide) (by kernel_rfl) ?_
                clear hF a; intro a hF
                refine Og.st_same (.pointer (some ⟨w.heap.size + 1, 10, none⟩)) hF rfl rfl (by decide) (by kernel_rfl) ?_
                clear hF a; intro a hF
                refine Og.st_skip (w' := w3.setCells (w.heap.size + 1) 10 (s.map bv)) hF rfl rfl
                  (exec_store (o := 10) (vs := s.map bv) (cs := pkL q (.slice none 0 0)) rfl rfl rfl hS.p (by rw [pkL_length hS.ok, List.length_map, hs]; decide) (by rw [List.length_map, hs]; exact s32_sz) (bvs_one s)) ?_
                clear hF a; intro a hF
                replace hS := hS.put hrl 10 (s.map bv) _ (set_sum q _ s (by rw [hS.ok.sum, hs])) { hS.ok with sum := hs } hS.cmd hS.data
                generalize w3.setCells (w.heap.size + 1) 10 (s.map bv) = w6 at *
                refine Og.st_same (.bool t) hF rfl rfl (by decide) (by kernel_rfl) ?_
                clear hF a; intro a hF
                refine wpList_nil ?_
                obtain ⟨U, rfl⟩ := Og.Fr.lit_ex hF (fun U => ⟨#[.pointer (some ⟨r, 0, none⟩), .int .i64 c, U 2, U 3, .pointer (some ⟨w.heap.size, 0, none⟩), .bool false, .pointer (some ⟨w.heap.size + 1, 0, none⟩), U 7, U 8, U 9, U 10, .bool t, U 12, U 13, U 14, U 15, U 16, U 17, U 18, U 19, U 20, U 21, U 22, U 23, U 24, U 25, U 26, U 27, U 28, U 29, U 30, U 31, U 32, U 33, U 34, U 35, U 36, U 37, U 38, U 39, U 40, U 41, U 42, U 43, U 44, U 45, U 46, U 47, U 48, U 49, U 50, U 51, U 52, U 53, U 54, U 55, U 56, U 57, U 58, U 59, U 60, U 61, U 62, U 63, U 64, U 65, U 66, U 67, U 68, U 69, U 70, U 71, U 72, U 73, U 74, U 75, U 76, U 77, U 78, U 79, U 80, U 81, U 82, U 83, U 84, U 85, U 86, U 87, U 88, U 89, U 90, U 91, U 92, U 93, U 94, U 95, U 96, U 97, U 98, U 99, U 100, U 101, U 102, U 103, U 104, U 105, U 106, U 107, U 108, U 109, U 110, U 111, U 112, U 113, U 114, U 115, U 116, U 117, U 118, U 119, U 120, U 121, U 122, U 123, U 124, U 125, U 126, U 127, U 128, U 129, U 130, U 131, U 132, U 133, U 134, U 135, U 136, U 137, U 138], []⟩) (by kernel_rfl)
                refine hK' _ _ (Met.intro (HJ.out _ _ ⟨t, _, _, ⟨U, rfl⟩, hS, ?_⟩))
                rw [hdr, hq]
                cases t <;> rfl
    · intro J K' hJ hK'
      cases hh : Wi.rHas c 32
      · have hq := Hq0.out
        rw [hh, if_neg (by decide)] at hq
        have Hq := Lib.hid hq
        clear hq Hq0
        go_wp2_with fail
        exact Met.intro (hJ _ _ ⟨true, q, at_, exU (fun U => ⟨#[.pointer (some ⟨r, 0, none⟩), .int .i64 c, U 2, U 3, .pointer (some ⟨w.heap.size, 0, none⟩), .bool false, .pointer (some ⟨w.heap.size + 1, 0, none⟩), U 7, U 8, U 9, U 10, .bool true, U 12, U 13, U 14, U 15, U 16, U 17, U 18, U 19, U 20, U 21, U 22, U 23, U 24, U 25, U 26, U 27, U 28, U 29, U 30, U 31, U 32, U 33, U 34, U 35, U 36, U 37, U 38, U 39, U 40, U 41, U 42, U 43, U 44, U 45, U 46, U 47, U 48, U 49, U 50, U 51, U 52, U 53, U 54, U 55, U 56, U 57, U 58, U 59, U 60, U 61, U 62, U 63, U 64, U 65, U 66, U 67, U 68, U 69, U 70, U 71, U 72, U 73, U 74, U 75, U 76, U 77, U 78, U 79, U 80, U 81, U 82, U 83, U 84, U 85, U 86, U 87, U 88, U 89, U 90, U 91, U 92, U 93, U 94, U 95, U 96, U 97, U 98, U 99, U 100, U 101, U 102, U 103, U 104, U 105, U 106, U 107, U 108, U 109, U 110, U 111, U 112, U 113, U 114, U 115, U 116, U 117, U 118, U 119, U 120, U 121, U 122, U 123, U 124, U 125, U 126, U 127, U 128, U 129, U 130, U 131, U 132, U 133, U 134, U 135, U 136, U 137, U 138], []⟩) rfl, hS, by rw [if_pos rfl]; exact Hq.out⟩)
      · have hq := Hq0.out
        rw [hh, if_pos rfl] at hq
        have Hq1 := Lib.hid hq
        have HJ := Lib.hid hJ
        clear hq Hq0 hJ
        go_upto_region 13 with fail
        refine wp_region_lit ?_
        refine Og.st_start (n := 139) rfl fun a hF => ?_
        refine Og.st_same (.pointer (some ⟨r, 0, none⟩)) hF rfl rfl (by decide) (by kernel_rfl) ?_
        clear hF a; intro a hF
        refine Og.st_call (f := 92) (args := #[.pointer (some ⟨r, 0, none⟩)]) hF rfl rfl (by decide) ((Og.exec_call rfl rgens_enter rfl _).trans (by kernel_rfl)) ((rgens_calls hS.rd (Hrb.out _ hS.g) hgr hS.le hl).mono ?_)
        rintro e w3 ⟨rfl, hR3, hg3⟩
        refine ⟨_, rfl, ?_⟩
        clear hF a; intro a hF
        have hq := Hq1.out
        rw [Wi.rG_res c q l at_ hS.le] at hq
        have l0 := Wi.rLong_lt l (Wi.rPl l at_ 0)
        have l1 := Wi.rLong_lt l (Wi.rPl l at_ 1)
        have l2 := Wi.rLong_lt l (Wi.rPl l at_ 2)
        have l3 := Wi.rLong_lt l (Wi.rPl l at_ 3)
        have lp : Wi.rPl l at_ 4 ≤ l.length := Wi.rLong_le l _
        replace hS := hS.read hrl hg3 hR3 lp
        generalize (Wi.rLong l (Wi.rPl l at_ 3)).2.1 = t at *
        generalize (Wi.rLong l (Wi.rPl l at_ 0)).1 = a0 at *
        generalize (Wi.rLong l (Wi.rPl l at_ 1)).1 = a1 at *
        generalize (Wi.rLong l (Wi.rPl l at_ 2)).1 = a2 at *
        generalize (Wi.rLong l (Wi.rPl l at_ 3)).1 = a3 at *
        generalize Wi.rPl l at_ 4 = at2 at *
        clear Hq1
        refine Og.st_same (.tuple #[.agg #[.int .u64 a0, .int .u64 a1, .int .u64 a2, .int .u64 a3], .bool t]) hF rfl rfl (by decide) (by kernel_rfl) ?_
        clear hF a; intro a hF
        refine Og.st_same (.agg #[.int .u64 a0, .int .u64 a1, .int .u64 a2, .int .u64 a3]) hF rfl rfl (by decide) (by kernel_rfl) ?_
        clear hF a; intro a hF
        refine Og.st_same (.bool t) hF rfl rfl (by decide) (by kernel_rfl) ?_
        clear hF a; intro a hF
        refine Og.st_same (.pointer (some ⟨w.heap.size + 1, 6, none⟩)) hF rfl rfl (by decide) (by kernel_rfl) ?_
        clear hF a; intro a hF
        refine Og.st_skip (w' := w3.setCells (w.heap.size + 1) 6 [.int .u64 a0, .int .u64 a1, .int .u64 a2, .int .u64 a3]) hF rfl rfl
          (exec_store (o := 6) (vs := [.int .u64 a0, .int .u64 a1, .int .u64 a2, .int .u64 a3]) (cs := pkL q (.slice none 0 0)) rfl rfl rfl hS.p (by rw [pkL_length hS.ok]; show 6 + 4 ≤ 43; decide) gens_sz (by intro u hu; simp at hu; rcases hu with rfl | rfl | rfl | rfl <;> rfl)) ?_
        clear hF a; intro a hF
        replace hS := hS.put hrl 6 [.int .u64 a0, .int .u64 a1, .int .u64 a2, .int .u64 a3] _ (set_gens q _ a0 a1 a2 a3) { hS.ok with g1 := l0, g2 := l1, g3 := l2, g4 := l3 } hS.cmd hS.data
        generalize w3.setCells (w.heap.size + 1) 6 [.int .u64 a0, .int .u64 a1, .int .u64 a2, .int .u64 a3] = w6 at *
        refine Og.st_same (.bool t) hF rfl rfl (by decide) (by kernel_rfl) ?_
        clear hF a; intro a hF
        refine wpList_nil ?_
        obtain ⟨U, rfl⟩ := Og.Fr.lit_ex hF (fun U => ⟨#[.pointer (some ⟨r, 0, none⟩), .int .i64 c, U 2, U 3, .pointer (some ⟨w.heap.size, 0, none⟩), .bool false, .pointer (some ⟨w.heap.size + 1, 0, none⟩), U 7, U 8, U 9, U 10, .bool t, U 12, U 13, U 14, U 15, U 16, U 17, U 18, U 19, U 20, U 21, U 22, U 23, U 24, U 25, U 26, U 27, U 28, U 29, U 30, U 31, U 32, U 33, U 34, U 35, U 36, U 37, U 38, U 39, U 40, U 41, U 42, U 43, U 44, U 45, U 46, U 47, U 48, U 49, U 50, U 51, U 52, U 53, U 54, U 55, U 56, U 57, U 58, U 59, U 60, U 61, U 62, U 63, U 64, U 65, U 66, U 67, U 68, U 69, U 70, U 71, U 72, U 73, U 74, U 75, U 76, U 77, U 78, U 79, U 80, U 81, U 82, U 83, U 84, U 85, U 86, U 87, U 88, U 89, U 90, U 91, U 92, U 93, U 94, U 95, U 96, U 97, U 98, U 99, U 100, U 101, U 102, U 103, U 104, U 105, U 106, U 107, U 108, U 109, U 110, U 111, U 112, U 113, U 114, U 115, U 116, U 117, U 118, U 119, U 120, U 121, U 122, U 123, U 124, U 125, U 126, U 127, U 128, U 129, U 130, U 131, U 132, U 133, U 134, U 135, U 136, U 137, U 138], []⟩) (by kernel_rfl)
        exact hK' _ _ (Met.intro (HJ.out _ _ ⟨t, _, at2, ⟨U, rfl⟩, hS, hq⟩))
end Go.Proofs.YtbgfoobcpacfeaaDoor
