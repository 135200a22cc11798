/- The document's bitmap: Length, Listed, bools, New, From. -/
import Derived.Test.YtckbckdaffdjmaaDoorBmTell
namespace Go.Proofs.YtckbckdaffdjmaaDoor
open Go.RowKit
set_option maxRecDepth 100000
set_option linter.unusedVariables false
set_option linter.unusedSimpArgs false

theorem bo_tu : Tryd.prog.underlying 95 = some (.slice 4) := by kernel_rfl
theorem bo_ti : (Tryd.prog.info? 4).map (fun i => (i.zero, i.size, i.bytes)) = some (some (.bool false), 1, 1) := by kernel_rfl
theorem bo_made (n : Nat) (hn : n ≤ 281474976710656) (w : World) : (Instr.makeSlice 95 (.int .i64 (n : Int)) (.int .i64 (n : Int))).run Tryd.prog w = .ok (.slice (some ⟨w.heap.size, 0, none⟩) n n) (w.alloc (.cells (madeCells #[.bool false] n) 4)) :=
  run_make_row' 95 4 (.bool false) 1 bo_tu bo_ti rfl .i64 .i64 n (by omega) (by omega) w
theorem bo_cells (n : Nat) : madeCells #[.bool false] n = ((List.replicate n false).map Value.bool).toArray := by
  apply Array.ext
  · simp [madeCells]
  · intro i h1 h2; simp [madeCells, Nat.mod_one]
/-- The document's bitmap. -/
structure RM (w : World) (r bb : Nat) (bs : List Bool) : Prop where
  hs : Rw w r 97 [.slice (some ⟨bb, 0, none⟩) bs.length bs.length]
  hb : Rw w bb 4 (bs.map Value.bool)
  ne : bb ≠ r
  max : bs.length ≤ 65536
theorem RM.mod {F : Nat → Prop} {w w' : World} {r bb : Nat} {bs : List Bool} (h : RM w r bb bs) (hm : Mod F w w') (h1 : ¬ F r) (h2 : ¬ F bb) : RM w' r bb bs := ⟨h.hs.mod hm h1, h.hb.mod hm h2, h.ne, h.max⟩
theorem RM.below {w w' : World} {r bb : Nat} {bs : List Bool} (h : RM w r bb bs) (hb : Below w.heap.size w w') : RM w' r bb bs := h.mod (F := fun _ => False) (Mod.of_below hb) id id
set_option maxHeartbeats 4000000 in
theorem length_calls {w : World} {n : Nat} (hn : n < 9223372036854775744) : Pur Tryd.prog 107 #[.int .i64 n] w (.int .i64 (Bm.room n : Nat)) := by
  unfold Pur
  go_enter Tryd.func107, Tryd.ntmps107
  go_wp2_with fail
  go_ret
  refine ⟨ret_int ?_, Below.refl _ _⟩
  unfold Bm.room; omega
set_option maxHeartbeats 4000000 in
theorem listed_calls {w : World} {v : Value} {W : List UInt64} {n : Nat} (h1 : 1 ≤ n) (h2 : n ≤ 65536) (h : RU w v W) : Pur Tryd.prog 91 #[.int .i64 n, v] w (.int .i64 (Bm.validE n W : Nat)) := by
  unfold Pur
  have hrc := length_calls (w := w) (n := n) (by omega)
  obtain ⟨p, cp, rfl, k1, k2, k3, hr⟩ := h
  have hrm : Bm.room n = (n + 63) / 64 := rfl
  go_enter Tryd.func91, Tryd.ntmps91
  obtain ⟨L, hL⟩ : ∃ L, L = W.length := ⟨_, rfl⟩
  rw [← hL] at k1 k3 ⊢
  by_cases e1 : L = Bm.room n
  · obtain ⟨x, hx⟩ : ∃ x, W[L - 1]? = some x := ⟨W[L - 1], List.getElem?_eq_getElem (by omega)⟩
    obtain ⟨g, o, rfl, hg, hc⟩ := hr _ _ hx
    have hx' : W.getD (W.length - 1) 0 = x := by rw [List.getD_eq_getElem?_getD, ← hL, hx]; rfl
    have hv : Bm.validE n W = if n % 64 ≠ 0 ∧ x.toNat / 2 ^ (n % 64) ≠ 0 then 2 else 0 := by unfold Bm.validE; rw [if_neg (by omega), hx']
    rw [hv]
    rw [← e1] at hrc hrm
    have hxl := x.toNat_lt
    clear hv hx' hx hr hL
    have hl1 : (L : Int) - 1 = ((L - 1 : Nat) : Int) := by omega
    have hl2 : ((L - 1 : Nat) : Int) < (L : Int) := by omega
    have hl3 : (0 : Int) ≤ ((L - 1 : Nat) : Int) := by omega
    by_cases e2 : n % 64 = 0
    · rw [if_neg (by simp [e2])]
      have hm : (n : Int) % 64 = 0 := by omega
      clear hrm e1
      go_wp2_with (first | (go_at_call 107; refine hrc.out.mono ?_; rintro e w1 ⟨rfl, hb⟩) | fail)
      go_ret
      exact ⟨rfl, hb⟩
    · have hm : ((n : Int) % 64 != 0) = true := by simp; omega
      have hd : (x.toNat : Int) / 2 ^ (n % 64) = ((x.toNat / 2 ^ (n % 64) : Nat) : Int) := by rw [Int.natCast_ediv]; simp
      clear hrm e1
      by_cases e3 : x.toNat / 2 ^ (n % 64) = 0
      · rw [if_neg (by simp [e3])]
        have hq : ((x.toNat : Int) / 2 ^ (n % 64) != 0) = false := by rw [hd, e3]; rfl
        clear hd
        go_wp2_with (first | (go_at_call 107; refine hrc.out.mono ?_; rintro e w1 ⟨rfl, hb⟩; have hc1 := ((bcell hb).1 _ _ hg).trans hc) | fail)
        go_ret
        exact ⟨rfl, hb⟩
      · rw [if_pos ⟨e2, e3⟩]
        have hq : ((x.toNat : Int) / 2 ^ (n % 64) != 0) = true := by rw [hd]; exact bne_iff_ne.2 (fun e => e3 (Int.ofNat_inj.1 e))
        clear hd
        go_wp2_with (first | (go_at_call 107; refine hrc.out.mono ?_; rintro e w1 ⟨rfl, hb⟩; have hc1 := ((bcell hb).1 _ _ hg).trans hc) | fail)
        go_ret
        exact ⟨rfl, hb⟩
  · have hv : Bm.validE n W = 3 := by unfold Bm.validE; rw [if_pos (by omega)]
    have hb1 : ((L : Int) == ((Bm.room n : Nat) : Int)) = false := by simp; omega
    rw [hv]
    clear hrm hv
    go_wp2_with (first | (go_at_call 107; refine hrc.out.mono ?_; rintro e w1 ⟨rfl, hb⟩) | fail)
    go_ret
    exact ⟨rfl, hb⟩
end Go.Proofs.YtckbckdaffdjmaaDoor
