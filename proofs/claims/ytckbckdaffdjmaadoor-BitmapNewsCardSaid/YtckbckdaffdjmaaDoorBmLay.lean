/- lay: a word of the lower level, the upper level and the count in step. -/
import Derived.Test.YtckbckdaffdjmaaDoorBmNew
namespace Go.Proofs.YtckbckdaffdjmaaDoor
open Go.RowKit
set_option maxRecDepth 100000
set_option linter.unusedVariables false
set_option linter.unusedSimpArgs false

theorem pow_cast (r : Nat) : (2 : Int) ^ r = ((2 ^ r : Nat) : Int) := by simp
theorem shl_one {r : Nat} (hr : r < 64) : IntKind.u64.wrap ((2 : Int) ^ r) = ((2 ^ r : Nat) : Int) := by
  rw [pow_cast]; exact wrap_nat (Nat.pow_lt_pow_right (by decide) hr)
theorem or_one {u r : Nat} (hu : u < 18446744073709551616) (hr : r < 64) : bits .or .u64 (u : Int) (IntKind.u64.wrap ((2 : Int) ^ r)) = ((Bm.on u r : Nat) : Int) := by
  rw [shl_one hr]; exact u64_or_nat _ _ hu (Nat.pow_lt_pow_right (n := 64) (by decide) hr)
theorem andNot_one {u r : Nat} (hu : u < 18446744073709551616) (hr : r < 64) : bits .andNot .u64 (u : Int) (IntKind.u64.wrap ((2 : Int) ^ r)) = ((Bm.off u r : Nat) : Int) := by
  rw [shl_one hr]; exact u64_andNot_nat _ _ hu (Nat.pow_lt_pow_right (n := 64) (by decide) hr)
set_option maxHeartbeats 4000000 in
theorem lay_calls {w : World} {p bw ba n : Nat} {W : List UInt64} (h : BM w p bw ba n W) {k : Nat} (hk : k < W.length) (x : UInt64) (hok : Bm.Ok n (W.set k x)) :
    Calls Tryd.prog 69 #[.pointer (some ⟨p, 0, none⟩), .int .i64 k, uv x] w fun e w' => e = .returned (.tuple #[]) ∧ BM w' p bw ba n (W.set k x) ∧ Mod (BM.At p bw ba) w w' := by
  obtain ⟨y, hy⟩ : ∃ y, W[k]? = some y := ⟨W[k], List.getElem?_eq_getElem hk⟩
  have hlen := h.ok.len
  have hmax := h.ok.max
  have hl1 := h.room_le.1
  have hul := Bm.upper_length W
  rw [hlen] at hul hk
  have hu1 : k / 64 < (Bm.upper W).length := by rw [hul]; exact Bm.room_lt hk
  obtain ⟨u, hu⟩ : ∃ u, (Bm.upper W)[k / 64]? = some u := ⟨_, List.getElem?_eq_getElem hu1⟩
  have hset := Bm.upper_set (x := x) (by rw [hlen]; exact hk) hu
  have hcnt := Bm.ones_set (y := x) hy
  have hole := Bm.ones_le W
  have hpl := Bm.pop_le_ones hy
  have hpx := Bm.pop_le 64 x.toNat
  have hones := fun (w : World) (z : UInt64) => onescount_calls (w := w) (x := z)
  have c0 := h.hs.cell (i := 0) rfl
  have c1 := h.hs.cell (i := 1) rfl
  have c2 := h.hs.cell (i := 2) rfl
  have c3 := h.hs.cell (i := 3) rfl
  have cw := h.hw.cell (i := k) (v := uv y) (by simp [hy])
  have lp := heap_lt h.hs
  have lw := heap_lt h.hw
  have la := heap_lt h.ha
  have hk1 : (k : Int) < ((Bm.room n : Nat) : Int) := by exact_mod_cast hk
  have hk0 : (0 : Int) ≤ (k : Int) := Int.natCast_nonneg k
  go_enter Tryd.func69, Tryd.ntmps69
  have hk2 : k ≤ 1024 := by omega
  have hq0 : 0 ≤ (k : Int) / 64 := by omega
  have hq1 : (k : Int) / 64 < ((Bm.room (Bm.room n) : Nat) : Int) := by rw [hul] at hu1; omega
  have hq2 : ((k : Int) / 64).toNat = k / 64 := by omega
  go_wp2_with fail
  refine wp_region_R_tail (Below w.heap.size w) 16 (by kernel_rfl) (by kernel_rfl) (Below.drew (Below.refl _ _)) ?_
  (repeat (first | (apply wpR_pass rfl; (try simp only [Act.put, List.setIfInBounds_toArray, List.set_cons_succ, List.set_cons_zero])) | (apply wpR_val rfl; (focus (intro w1 hR; obtain ⟨hc, hf⟩ := bcellB hR; (try go_simp); (try exact Eq.refl _); done)); (try simp only [Act.put, List.setIfInBounds_toArray, List.set_cons_succ, List.set_cons_zero])) | (apply wpR_call rfl; (focus (intro w1 hR; obtain ⟨hc, hf⟩ := bcellB hR; (try go_simp); (try exact And.intro rfl rfl); done)); (focus (intro w1 hR; first | exact (hones _ _).at_ (by first | omega | (simp; done) | (simp; omega)) hR)); (try simp only [Act.put, List.setIfInBounds_toArray, List.set_cons_succ, List.set_cons_zero])) | (apply wpR_val_want rfl; (focus (intro w1 hR; obtain ⟨hc, hf⟩ := bcellB hR; (try go_simp); (try exact Eq.refl _); done)); (try simp only [Act.put, List.setIfInBounds_toArray, List.set_cons_succ, List.set_cons_zero])) | (apply wpR_call_want rfl; (focus (intro w1 hR; obtain ⟨hc, hf⟩ := bcellB hR; (try go_simp); (try exact And.intro rfl rfl); done)); (focus (intro w1 hR; first | exact (hones _ _).at_ (by first | omega | (simp; done) | (simp; omega)) hR)); (try simp only [Act.put, List.setIfInBounds_toArray, List.set_cons_succ, List.set_cons_zero]))))
  refine wpR_nil ?_
  intro w1 hb1
  have h1 := h.below hb1
  obtain ⟨Z, hZ⟩ : ∃ Z : Nat, (Z : Int) = wrap64 ((Bm.ones' W : Nat) + wrap64 ((Bm.pop 64 x.toNat : Nat) - (Bm.pop 64 y.toNat : Nat) : Int)) ∧ Z = Bm.ones' (W.set k x) := ⟨Bm.ones' (W.set k x), by rw [IntWalk.wrap64_in ((Bm.pop 64 x.toNat : Nat) - (Bm.pop 64 y.toNat : Nat) : Int) ⟨by omega, by omega⟩, IntWalk.wrap64_in _ ⟨by omega, by omega⟩]; omega, rfl⟩
  have s1 := Nat.lt_of_lt_of_le lp hb1.size
  have s2 := Nat.lt_of_lt_of_le lw hb1.size
  have s3 := Nat.lt_of_lt_of_le la hb1.size
  have n1 := h.n1; have n2 := h.n2; have n3 := h.n3
  have n1' := Ne.symm n1; have n2' := Ne.symm n2; have n3' := Ne.symm n3
  rw [← wb_self h1.ha, ← wb_self h1.hw, ← wb_self h1.hs]
  clear hones hcnt hole hpl hpx c0 c1 c2 c3 cw
  have hZ1 := hZ.1
  have cu : ((Bm.upper W).map uv)[k / 64]? = some (uv u) := by simp [hu]
  have hOk := Lib.hid hok
  clear hul hu1 hok
  by_cases hx : x = 0
  · have hx1 : ((x.toNat : Int) != 0) = false := by subst hx; rfl
    have hxx := Lib.hid hx
    clear hx
    go_wp2_with fail
    go_end0
    refine ⟨rfl, ⟨?_, ?_, ?_, n1, n2, n3, hOk.out⟩, ?_⟩
    · refine (heap_wb_ne n2).trans ((heap_wb_ne n1).trans ((heap_wb s1).trans ?_))
      rw [← hZ1, hZ.2]
    · refine (heap_wb_ne n3).trans ((heap_wb (by simpa using s2)).trans ?_)
      rw [← List.map_set]
    · refine (heap_wb (by simpa using s3)).trans ?_
      rw [andNot_one u.toNat_lt (Nat.mod_lt _ (by decide)), hset, if_neg (fun e => e hxx.out), List.map_set, uv, Bm.toNat_of (Bm.off_lt (Nat.mod_lt _ (by decide)))]
    · exact (Mod.of_below hb1).trans (((Mod.wb _ _ _ _ (.inl rfl)).trans (Mod.wb _ _ _ _ (.inr (.inl rfl)))).trans (Mod.wb _ _ _ _ (.inr (.inr rfl))))
  · have hx1 : ((x.toNat : Int) != 0) = true := bne_iff_ne.2 fun e => hx (UInt64.toNat_inj.1 (Int.ofNat_inj.1 e))
    go_wp2_with fail
    go_end0
    refine ⟨rfl, ⟨?_, ?_, ?_, n1, n2, n3, hOk.out⟩, ?_⟩
    · refine (heap_wb_ne n2).trans ((heap_wb_ne n1).trans ((heap_wb s1).trans ?_))
      rw [← hZ1, hZ.2]
    · refine (heap_wb_ne n3).trans ((heap_wb (by simpa using s2)).trans ?_)
      rw [← List.map_set]
    · refine (heap_wb (by simpa using s3)).trans ?_
      rw [or_one u.toNat_lt (Nat.mod_lt _ (by decide)), hset, if_pos hx, List.map_set, uv, Bm.toNat_of (Bm.on_lt u.toNat_lt (Nat.mod_lt _ (by decide)))]
    · exact (Mod.of_below hb1).trans (((Mod.wb _ _ _ _ (.inl rfl)).trans (Mod.wb _ _ _ _ (.inr (.inl rfl)))).trans (Mod.wb _ _ _ _ (.inr (.inr rfl))))
end Go.Proofs.YtckbckdaffdjmaaDoor
