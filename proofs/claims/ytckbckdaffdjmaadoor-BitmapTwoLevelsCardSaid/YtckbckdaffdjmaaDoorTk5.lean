/- Walks and plain laws of the packets and frames, joined from: TlC, TlD, TlB, Og, StU, By, Lw, LwU, LwM3, OpU. -/
import Derived.Test.YtckbckdaffdjmaaDoorTk4
import Derived.Deep.MidRow
import Derived.Deep.Upon
import Derived.Maps.AppendAt
import Derived.Laws.OwnMore
import Derived.WalkSpells
import Derived.Lib.LazyBuf
import Derived.Test.YtckbckdaffdjmaaDoorCards
import Derived.Test.YtckbckdaffdjmaaDoorTie
import Derived.LaidMore
import Derived.SevenTiedAt
/- The law's own function levels. -/
namespace Go.Proofs.YtckbckdaffdjmaaDoor
open Go.RowKit
set_option maxRecDepth 100000
set_option linter.unusedVariables false
set_option linter.unusedSimpArgs false

/-- How many ones the first k words have. -/
def sumU (W : List UInt64) (k : Nat) : Nat := Bm.ones' (W.take k)
theorem sumU_zero (W : List UInt64) : sumU W 0 = 0 := rfl
theorem sumU_all (W : List UInt64) : sumU W W.length = Bm.ones' W := by unfold sumU; rw [List.take_length]
theorem ones_snoc : ∀ (W : List UInt64) (x : UInt64), Bm.ones' (W ++ [x]) = Bm.ones' W + popU x.toNat
  | [], x => by simp only [List.nil_append, Bm.ones']; unfold popU; omega
  | y :: r, x => by simp only [List.cons_append, Bm.ones', ones_snoc r x]; omega
theorem sumU_next {W : List UInt64} {k : Nat} {x : UInt64} (hx : W[k]? = some x) : sumU W (k + 1) = sumU W k + popU x.toNat := by
  unfold sumU
  rw [List.take_add_one, hx]
  exact ones_snoc _ _
theorem sumU_past {W : List UInt64} {k : Nat} (h : W.length ≤ k) : sumU W k = Bm.ones' W := by unfold sumU; rw [List.take_of_length_le h]
theorem sumU_le (W : List UInt64) (k : Nat) : sumU W k ≤ 64 * k := by
  unfold sumU
  refine Nat.le_trans (Bm.ones_le _) ?_
  have := List.length_take_le k W
  omega
set_option maxHeartbeats 8000000 in
theorem levels_calls {w : World} {p bw ba n : Nat} {W : List UInt64} (h : BM w p bw ba n W) : Pur Tryd.prog 30 #[.pointer (some ⟨p, 0, none⟩), .int .i64 n] w (.bool true) := by
  unfold Pur
  have hmx := h.ok.max
  have hpos := h.ok.pos
  have hlen := h.ok.len
  have hul := Bm.upper_length W
  rw [hlen] at hul
  obtain ⟨R, hR⟩ : ∃ R, R = Bm.room n := ⟨_, rfl⟩
  obtain ⟨R2, hR2⟩ : ∃ R2, R2 = Bm.room R := ⟨_, rfl⟩
  rw [← hR] at hlen hul
  rw [← hR2] at hul
  have HM := Lib.hid h
  have HLEN := Lib.hid hlen
  have HUL := Lib.hid hul
  have HRR : Hid (R ≤ 64 * R2 ∧ R ≤ 1024 ∧ R2 ≤ 16) := Lib.hid (by rw [hR2, hR]; unfold Bm.room; omega)
  have hq1 : ((n : Int) + 63) / 64 = (R : Int) := by rw [hR]; unfold Bm.room; omega
  have hq2 : ((R : Int) + 63) / 64 = (R2 : Int) := by rw [hR2]; unfold Bm.room; omega
  have hr9 : (R : Int) ≤ 1024 := by have := HRR.out; omega
  have hr92 : (R2 : Int) ≤ 16 := by have := HRR.out; omega
  have hn9 : (n : Int) ≤ 65536 := by omega
  have hn0 : (0 : Int) ≤ (n : Int) := by omega
  clear h hlen hul hR hR2 hmx hpos
  go_enter Tryd.func30, Tryd.ntmps30
  go_upto_region 5 with (first
    | (go_at_call 32; refine (words_calls HM.out).mono ?_; rintro e w1 ⟨v1, rfl, hn1⟩
       have hb1 := hn1.bel
       have HN1 := Lib.hid hn1
       have HB1 := Lib.hid hb1
       obtain ⟨g1, hv1, -⟩ := hn1
       rw [HLEN.out] at hv1
       clear hb1)
    | (go_at_call 64; refine (summary_calls (HM.out.below HB1.out)).mono ?_; rintro e w2 ⟨v2, rfl, hn2⟩
       have hb2 := hn2.bel
       have HN2 := Lib.hid hn2
       have HB2 := Lib.hid hb2
       obtain ⟨g2, hv2, -⟩ := hn2
       rw [HUL.out] at hv2
       clear hb2
       subst hv1 hv2)
    | fail)
  clear hq1 hq2 hn9 hn0
  have hr1 : Rw w2 g1 58 (W.map uv) := by
    obtain ⟨g, e, h4, _⟩ := HN1.out
    simp only [Value.slice.injEq, Option.some.injEq, Addr.mk.injEq, and_true] at e
    rw [e.1]; exact h4.below HB2.out
  have hr2 : Rw w2 g2 58 ((Bm.upper W).map uv) := by
    obtain ⟨g, e, h4, _⟩ := HN2.out
    simp only [Value.slice.injEq, Option.some.injEq, Addr.mk.injEq, and_true] at e
    rw [e.1]; exact h4
  have l1 := heap_lt hr1
  have l2 := heap_lt hr2
  have HR1 := Lib.hid hr1
  have HR2 := Lib.hid hr2
  clear hr1 hr2
  go_wp2_with fail
  obtain ⟨S, hS⟩ : ∃ S, S = 64 * R2 := ⟨_, rfl⟩
  have hR64 : (64 : Int) * (R2 : Int) = (S : Int) := by omega
  have HSS := Lib.hid hS
  clear hS
  refine wp_loop_count (fun k a w' => ∃ z : Nat, Is (fun U => ⟨#[.pointer (some ⟨p, 0, none⟩), .int .i64 n, U 2, U 3, U 4, .slice (some ⟨g1, 0, none⟩) R R, .slice (some ⟨g2, 0, none⟩) R2 R2, .int .i64 (z : Int), .int .i64 (k : Int), U 9, U 10, U 11, U 12, U 13, U 14, U 15, U 16, U 17, U 18, U 19, U 20, U 21, U 22, U 23, U 24, U 25, U 26, U 27, U 28, U 29, U 30, U 31, U 32, U 33, U 34, U 35, U 36, U 37, U 38, U 39, U 40, U 41, U 42, U 43, U 44, U 45, U 46, U 47, U 48, U 49, U 50, U 51, U 52, U 53, U 54, U 55, U 56, U 57, U 58, U 59, U 60, U 61, U 62, U 63, U 64, U 65, U 66, U 67, U 68, U 69, U 70, U 71, U 72, U 73, U 74], []⟩) a ∧ Below w2.heap.size w2 w' ∧ z = sumU W k) S ⟨0, isU (fun U => ⟨#[.pointer (some ⟨p, 0, none⟩), .int .i64 n, U 2, U 3, U 4, .slice (some ⟨g1, 0, none⟩) R R, .slice (some ⟨g2, 0, none⟩) R2 R2, .int .i64 0, .int .i64 0, U 9, U 10, U 11, U 12, U 13, U 14, U 15, U 16, U 17, U 18, U 19, U 20, U 21, U 22, U 23, U 24, U 25, U 26, U 27, U 28, U 29, U 30, U 31, U 32, U 33, U 34, U 35, U 36, U 37, U 38, U 39, U 40, U 41, U 42, U 43, U 44, U 45, U 46, U 47, U 48, U 49, U 50, U 51, U 52, U 53, U 54, U 55, U 56, U 57, U 58, U 59, U 60, U 61, U 62, U 63, U 64, U 65, U 66, U 67, U 68, U 69, U 70, U 71, U 72, U 73, U 74], []⟩) rfl, Below.refl _ _, rfl⟩ ?_ ?_
  · rintro k a w' hk ⟨z, hU, hb, hz⟩
    obtain ⟨U, rfl⟩ := hU.out
    have hrr := HRR.out
    have hss := HSS.out
    obtain ⟨u, hu⟩ : ∃ u, (Bm.upper W)[k / 64]? = some u := ⟨_, List.getElem?_eq_getElem (by rw [HUL.out]; omega)⟩
    have hbv := shr_bit (r := k % 64) u.toNat_lt
    have hup : u.toNat.testBit (k % 64) = decide (W.getD k 0 ≠ 0) := by
      have := Bm.upper_at hu (t := 0) (by omega)
      rwa [Nat.add_zero, Nat.add_zero] at this
    rw [hup] at hbv
    have cu := ((bcell hb).1 _ _ l2).trans (HR2.out.cell (i := k / 64) (v := uv u) (by simp [hu]))
    have hzl := sumU_le W k
    rw [← hz] at hzl
    have hk0 : (0 : Int) ≤ (k : Int) := Int.natCast_nonneg k
    have hk9 : (k : Int) < (S : Int) := by omega
    have hp0 : 0 ≤ (k : Int) / 64 := by omega
    have hp1 : (k : Int) / 64 < (R2 : Int) := by omega
    have hp2 : ((k : Int) / 64).toNat = k / 64 := by omega
    have hz9 : (z : Int) ≤ 65536 := by omega
    have hz0 : (0 : Int) ≤ (z : Int) := Int.natCast_nonneg z
    have HB := Lib.hid hb
    have HZ := Lib.hid hz
    clear hup hu hk hU hb hz hzl hss
    by_cases hkR : (k : Int) < (R : Int)
    · obtain ⟨x, hx⟩ : ∃ x, W[k]? = some x := ⟨_, List.getElem?_eq_getElem (by rw [HLEN.out]; omega)⟩
      have cx := ((bcell HB.out).1 _ _ l1).trans (HR1.out.cell (i := k) (v := uv x) (by simp [hx]))
      have hxv : ((x.toNat : Int) != 0) = decide (W.getD k 0 ≠ 0) := by
        rw [List.getD_eq_getElem?_getD, hx]
        show _ = decide (x ≠ 0)
        by_cases e : x = 0
        · subst e; rfl
        · rw [decide_eq_true e]; exact bne_iff_ne.2 fun e' => e (UInt64.toNat_inj.1 (Int.ofNat_inj.1 e'))
      have HN := Lib.hid (sumU_next hx)
      have hone := ones_calls (w := w') x.toNat_lt
      have hpl := popU_le x.toNat
      obtain ⟨q, hq⟩ : ∃ q, q = popU x.toNat := ⟨_, rfl⟩
      rw [← hq] at hone hpl HN
      have hq9 : (q : Int) ≤ 64 := by omega
      have hq0 : (0 : Int) ≤ (q : Int) := Int.natCast_nonneg q
      obtain ⟨b, hbb⟩ : ∃ b, b = decide (W.getD k 0 ≠ 0) := ⟨_, rfl⟩
      rw [← hbb] at hbv hxv
      clear hx hpl hq hbb hrr
      go_wp2_with (first | (go_at_call 70; refine hone.out.mono ?_; rintro e w3 ⟨rfl, hb3⟩) | fail)
      exact ⟨z + q, isU (fun U => ⟨#[.pointer (some ⟨p, 0, none⟩), .int .i64 n, U 2, U 3, U 4, .slice (some ⟨g1, 0, none⟩) R R, .slice (some ⟨g2, 0, none⟩) R2 R2, .int .i64 (z + q : Nat), .int .i64 (k + 1 : Nat), U 9, U 10, U 11, U 12, U 13, U 14, U 15, U 16, U 17, U 18, U 19, U 20, U 21, U 22, U 23, U 24, U 25, U 26, U 27, U 28, U 29, U 30, U 31, U 32, U 33, U 34, U 35, U 36, U 37, U 38, U 39, U 40, U 41, U 42, U 43, U 44, U 45, U 46, U 47, U 48, U 49, U 50, U 51, U 52, U 53, U 54, U 55, U 56, U 57, U 58, U 59, U 60, U 61, U 62, U 63, U 64, U 65, U 66, U 67, U 68, U 69, U 70, U 71, U 72, U 73, U 74], []⟩) rfl, HB.out.trans (hb3.mono HB.out.size), by rw [HN.out, HZ.out]⟩
    · have hkR' : (R : Int) ≤ (k : Int) := by omega
      have hgd : W.getD k 0 = 0 := by rw [List.getD_eq_getElem?_getD, List.getElem?_eq_none (by rw [HLEN.out]; omega)]; rfl
      rw [hgd] at hbv
      have HN : Hid (sumU W (k + 1) = sumU W k) := Lib.hid (by rw [sumU_past (by rw [HLEN.out]; omega), sumU_past (by rw [HLEN.out]; omega)])
      have hbv' : (bits .and .u64 ((u.toNat : Int) / 2 ^ (k % 64)) 1 == 1) = false := hbv
      clear hbv hgd hkR hrr
      go_wp2_with fail
      exact ⟨z, isU (fun U => ⟨#[.pointer (some ⟨p, 0, none⟩), .int .i64 n, U 2, U 3, U 4, .slice (some ⟨g1, 0, none⟩) R R, .slice (some ⟨g2, 0, none⟩) R2 R2, .int .i64 (z : Int), .int .i64 (k + 1 : Nat), U 9, U 10, U 11, U 12, U 13, U 14, U 15, U 16, U 17, U 18, U 19, U 20, U 21, U 22, U 23, U 24, U 25, U 26, U 27, U 28, U 29, U 30, U 31, U 32, U 33, U 34, U 35, U 36, U 37, U 38, U 39, U 40, U 41, U 42, U 43, U 44, U 45, U 46, U 47, U 48, U 49, U 50, U 51, U 52, U 53, U 54, U 55, U 56, U 57, U 58, U 59, U 60, U 61, U 62, U 63, U 64, U 65, U 66, U 67, U 68, U 69, U 70, U 71, U 72, U 73, U 74], []⟩) rfl, HB.out, by rw [HN.out]; exact HZ.out⟩
  · rintro a w' ⟨z, hU, hb, hz⟩
    obtain ⟨U, rfl⟩ := hU.out
    have hze : z = Bm.ones' W := by
      have h1 := HRR.out
      have h2 := HSS.out
      rw [hz, sumU_past (by rw [HLEN.out]; omega)]
    have hcnt := count_calls (((HM.out.below HB1.out).below HB2.out).below hb)
    rw [← hze] at hcnt
    have HB := Lib.hid hb
    have HC := Lib.hid hcnt
    clear hU hb hz hze hcnt
    go_wp2_with (first | (go_at_call 40; refine HC.out.out.mono ?_; rintro e w3 ⟨rfl, hb3⟩) | fail)
    go_ret
    exact ⟨rfl, HB1.out.trans ((HB2.out.trans ((HB.out.trans (hb3.mono HB.out.size)).mono HB2.out.size)).mono HB1.out.size)⟩
end Go.Proofs.YtckbckdaffdjmaaDoor

/- The law's own function ends. -/
namespace Go.Proofs.YtckbckdaffdjmaaDoor
open Go.RowKit
set_option maxRecDepth 100000
set_option linter.unusedVariables false
set_option linter.unusedSimpArgs false

namespace Bm
/-- What a find tells, as a stretch. -/
theorem find_cases (g : Nat → Bool) {n f : Nat} (hf : f < n) : ∃ t : Nat, f ≤ t ∧ t ≤ n ∧ cnt g f (t - f) = 0 ∧ ((find g n f = -1 ∧ t = n) ∨ (find g n f = (t : Int) ∧ t < n ∧ g t = true)) := by
  rcases find_is g n f with ⟨e, h⟩ | ⟨i, e, h1, h2, h3, h4⟩
  · exact ⟨n, by omega, Nat.le_refl _, cnt_none _ fun t ht => h _ (by omega) (by omega), .inl ⟨e, rfl⟩⟩
  · exact ⟨i, h1, by omega, cnt_none _ fun t ht => h4 _ (by omega) (by omega), .inr ⟨e, h2, h3⟩⟩
theorem cnt_one (g : Nat → Bool) (a : Nat) : cnt g a 1 = if g a = true then 1 else 0 := by rw [cnt, cnt, Nat.add_zero, Nat.zero_add]
end Bm
set_option maxHeartbeats 16000000 in
theorem ends_calls {w : World} {p bw ba n : Nat} {W : List UInt64} (h : BM w p bw ba n W) (hT : Tz w) {f : Nat} (hf : f < n) : Pur Tryd.prog 36 #[.pointer (some ⟨p, 0, none⟩), .int .i64 n, .int .i64 f] w (.bool true) := by
  unfold Pur
  have hmx := h.ok.max
  obtain ⟨t, h1, h2, h3, ht⟩ := Bm.find_cases (Bm.bit W) hf
  obtain ⟨u, g1, g2, g3, hu⟩ := Bm.find_cases (fun t => !Bm.bit W t) hf
  have hcu : Bm.cnt (Bm.bit W) f (u - f) = u - f := by
    have := Bm.cnt_not (Bm.bit W) f (u - f)
    omega
  have hnx := fun w1 (hb : Below w.heap.size w w1) => next_calls (h.below hb) (hT.below hb) (wf_nat (n := f) (by omega))
  have hnc := fun w1 (hb : Below w.heap.size w w1) => nextclear_calls (h.below hb) (hT.below hb) (wf_nat (n := f) (by omega))
  simp only [Int.toNat_natCast] at hnx hnc
  have hc1 := fun w1 (hb : Below w.heap.size w w1) => countrange_calls (h.below hb) (f := f) (c := t - f) (by omega)
  have hc2 := fun w1 (hb : Below w.heap.size w w1) => countrange_calls (h.below hb) (f := f) (c := u - f) (by omega)
  rw [h3] at hc1
  rw [hcu] at hc2
  have hc3 := fun (e : t < n) w1 (hb : Below w.heap.size w w1) => countrange_calls (h.below hb) (f := t) (c := 1) (by omega)
  have hc4 := fun (e : u < n) w1 (hb : Below w.heap.size w w1) => countrange_calls (h.below hb) (f := u) (c := 1) (by omega)
  rw [Bm.cnt_one] at hc3 hc4
  obtain ⟨T, hTT⟩ : ∃ T, T = Bm.find (Bm.bit W) n f := ⟨_, rfl⟩
  obtain ⟨U0, hUU⟩ : ∃ U0, U0 = Bm.find (fun t => !Bm.bit W t) n f := ⟨_, rfl⟩
  rw [← hTT] at ht hnx
  rw [← hUU] at hu hnc
  have hd1 : (t : Int) - (f : Int) = ((t - f : Nat) : Int) := by omega
  have hd2 : (u : Int) - (f : Int) = ((u - f : Nat) : Int) := by omega
  obtain ⟨td, htd⟩ : ∃ td, td = t - f := ⟨_, rfl⟩
  obtain ⟨ud, hud⟩ : ∃ ud, ud = u - f := ⟨_, rfl⟩
  rw [← htd] at hd1 hc1
  rw [← hud] at hd2 hc2
  have HNX := Lib.hid hnx
  have HNC := Lib.hid hnc
  have HC1 := Lib.hid hc1
  have HC2 := Lib.hid hc2
  have hn0 : (n : Int) ≤ 65536 := by omega
  have hf0 : (0 : Int) ≤ (f : Int) := Int.natCast_nonneg f
  have ht1 : (f : Int) ≤ (t : Int) := by omega
  have ht2 : (t : Int) ≤ (n : Int) := by omega
  have hu1 : (f : Int) ≤ (u : Int) := by omega
  have hu2 : (u : Int) ≤ (n : Int) := by omega
  have hnum := fun (w : World) (e : Int) => num_calls (w := w) e
  have HNUM := Lib.hid hnum
  have HNUMb := Lib.hid hnum
  have HNUMc := Lib.hid hnum
  have HNUMd := Lib.hid hnum
  have HC3 : Hid (T ≠ -1 → T = (t : Int) ∧ ∀ w1, Below w.heap.size w w1 → Pur Tryd.prog 39 #[.pointer (some ⟨p, 0, none⟩), .int .i64 t, .int .i64 1] w1 (.tuple #[.int .i64 1, .int .i64 0])) := Lib.hid fun e => by
    rcases ht with ⟨e', _⟩ | ⟨e', hlt, hb⟩
    · exact absurd e' e
    · refine ⟨e', fun w1 hb1 => ?_⟩
      have := hc3 hlt w1 hb1
      rw [if_pos hb] at this
      exact this
  have HC4 : Hid (U0 ≠ -1 → U0 = (u : Int) ∧ ∀ w1, Below w.heap.size w w1 → Pur Tryd.prog 39 #[.pointer (some ⟨p, 0, none⟩), .int .i64 u, .int .i64 1] w1 (.tuple #[.int .i64 0, .int .i64 0])) := Lib.hid fun e => by
    rcases hu with ⟨e', _⟩ | ⟨e', hlt, hb⟩
    · exact absurd e' e
    · refine ⟨e', fun w1 hb1 => ?_⟩
      have := hc4 hlt w1 hb1
      rw [if_neg (by simpa using hb)] at this
      exact this
  have hT2 : (T = -1 ∧ t = n) ∨ (T ≠ -1 ∧ T = (t : Int)) := by omega
  have hU2 : (U0 = -1 ∧ u = n) ∨ (U0 ≠ -1 ∧ U0 = (u : Int)) := by omega
  clear h hT hf hmx h1 h2 h3 ht g1 g2 g3 hu hcu hnx hnc hc1 hc2 hc3 hc4 hTT hUU htd hud hnum
  go_enter Tryd.func36, Tryd.ntmps36
  go_upto_if 17 with (first
    | (go_at_call 31; refine (HNX.out w (Below.refl _ _)).out.mono ?_; rintro e w1 ⟨rfl, hb1⟩)
    | fail)
  rename_i hnext
  refine wp_cut (fun a' w' => Is (fun U => ⟨#[.pointer (some ⟨p, 0, none⟩), .int .i64 n, .int .i64 f, U 3, U 4, U 5, U 6, .int .i64 T, .int .i64 (t : Int), U 9, U 10, U 11, U 12, U 13, U 14, U 15, U 16, U 17, U 18, U 19, U 20, U 21, U 22, U 23, U 24, U 25, U 26, U 27, U 28, U 29, U 30, U 31, U 32, U 33, U 34, U 35, U 36, U 37, U 38, U 39, U 40, U 41, U 42, U 43, U 44, U 45, U 46, U 47, U 48, U 49, U 50, U 51, U 52, U 53, U 54, U 55, U 56, U 57, U 58, U 59, U 60, U 61, U 62, U 63, U 64, U 65, U 66, U 67, U 68, U 69, U 70, U 71, U 72, U 73, U 74, U 75, U 76, U 77, U 78, U 79, U 80, U 81, U 82, U 83, U 84, U 85, U 86, U 87, U 88, U 89, U 90, U 91, U 92, U 93, U 94, U 95, U 96, U 97, U 98, U 99, U 100, U 101, U 102, U 103, U 104, U 105, U 106], []⟩) a' ∧ w' = w1) ?_ ?_
  · rintro a w' ⟨hU, hww⟩
    rw [hww]
    clear hww w'
    obtain ⟨U, rfl⟩ := hU.out
    refine hnext _ _ ?_
    clear hnext hU
    have HB1 := Lib.hid hb1
    clear hb1
    go_upto_if 44 with (first
      | (go_at_call 39; refine (HC1.out w1 HB1.out).out.mono ?_; clear HC1; rintro e w2 ⟨rfl, hb2⟩)
      | (go_at_call 33; refine (HNUM.out w2 _).out.mono ?_; clear HNUM; rintro e w3 ⟨rfl, hb3⟩)
      | fail)
    rename_i hnext
    have HB3 : Hid (Below w.heap.size w w3) := Lib.hid (HB1.out.trans ((hb2.trans (hb3.mono hb2.size)).mono HB1.out.size))
    clear hb2 hb3
    refine wp_cut (fun a' w' => Is (fun U => ⟨#[.pointer (some ⟨p, 0, none⟩), .int .i64 n, .int .i64 f, U 3, U 4, U 5, U 6, U 7, U 8, U 9, U 10, U 11, U 12, U 13, U 14, U 15, U 16, U 17, U 18, U 19, U 20, U 21, U 22, U 23, U 24, U 25, U 26, U 27, U 28, U 29, U 30, U 31, U 32, U 33, U 34, U 35, U 36, U 37, U 38, U 39, U 40, U 41, U 42, U 43, U 44, U 45, U 46, U 47, U 48, U 49, U 50, U 51, U 52, U 53, U 54, U 55, U 56, U 57, U 58, U 59, U 60, U 61, U 62, U 63, U 64, U 65, U 66, U 67, U 68, U 69, U 70, U 71, U 72, U 73, U 74, U 75, U 76, U 77, U 78, U 79, U 80, U 81, U 82, U 83, U 84, U 85, U 86, U 87, U 88, U 89, U 90, U 91, U 92, U 93, U 94, U 95, U 96, U 97, U 98, U 99, U 100, U 101, U 102, U 103, U 104, U 105, U 106], []⟩) a' ∧ Below w.heap.size w w') ?_ ?_
    · rintro a w4 ⟨hU, hb4⟩
      obtain ⟨U, rfl⟩ := hU.out
      refine hnext _ _ ?_
      have HB4 := Lib.hid hb4
      clear hnext hU hb4 hT2
      go_upto_if 63 with (first
        | (go_at_call 35; refine (HNC.out w4 HB4.out).out.mono ?_; rintro e w5 ⟨rfl, hb5⟩)
        | fail)
      rename_i hnext
      have HB5 : Hid (Below w.heap.size w w5) := Lib.hid (HB4.out.trans (hb5.mono HB4.out.size))
      clear hb5
      refine wp_cut (fun a' w' => Is (fun U => ⟨#[.pointer (some ⟨p, 0, none⟩), .int .i64 n, .int .i64 f, U 3, U 4, U 5, U 6, U 7, .int .i64 (u : Int), U 9, U 10, .int .i64 U0, U 12, U 13, U 14, U 15, U 16, U 17, U 18, U 19, U 20, U 21, U 22, U 23, U 24, U 25, U 26, U 27, U 28, U 29, U 30, U 31, U 32, U 33, U 34, U 35, U 36, U 37, U 38, U 39, U 40, U 41, U 42, U 43, U 44, U 45, U 46, U 47, U 48, U 49, U 50, U 51, U 52, U 53, U 54, U 55, U 56, U 57, U 58, U 59, U 60, U 61, U 62, U 63, U 64, U 65, U 66, U 67, U 68, U 69, U 70, U 71, U 72, U 73, U 74, U 75, U 76, U 77, U 78, U 79, U 80, U 81, U 82, U 83, U 84, U 85, U 86, U 87, U 88, U 89, U 90, U 91, U 92, U 93, U 94, U 95, U 96, U 97, U 98, U 99, U 100, U 101, U 102, U 103, U 104, U 105, U 106], []⟩) a' ∧ w' = w5) ?_ ?_
      · rintro a w' ⟨hU, hww⟩
        rw [hww]
        clear hww w'
        obtain ⟨U, rfl⟩ := hU.out
        refine hnext _ _ ?_
        clear hnext hU
        have hu0 : (u : Int) - (f : Int) = (ud : Int) := hd2
        rcases hU2 with ⟨rfl, rfl⟩ | ⟨hne, he⟩
        · go_wp2_with (first
            | (go_at_call 39; refine (HC2.out w5 HB5.out).out.mono ?_; clear HC2; rintro e w6 ⟨rfl, hb6⟩)
            | (go_at_call 33; refine (HNUMb.out w6 _).out.mono ?_; clear HNUMb; rintro e w7 ⟨rfl, hb7⟩)
            | fail)
          go_ret
          exact ⟨rfl, HB5.out.trans ((hb6.trans (hb7.mono hb6.size)).mono HB5.out.size)⟩
        · have hne' : (U0 == -1) = false := beq_eq_false_iff_ne.2 hne
          have hne2 : (U0 != -1) = true := bne_iff_ne.2 hne
          obtain ⟨he4, h4⟩ := HC4.out hne
          have H4 := Lib.hid h4
          clear he h4 hne
          subst he4
          go_wp2_with (first
            | (go_at_call 39; refine (HC2.out w5 HB5.out).out.mono ?_; clear HC2; rintro e w6 ⟨rfl, hb6⟩; have HB6 : Hid (Below w.heap.size w w6) := Lib.hid (HB5.out.trans (hb6.mono HB5.out.size)); clear hb6)
            | (go_at_call 33; refine (HNUMb.out w6 _).out.mono ?_; clear HNUMb; rintro e w7 ⟨rfl, hb7⟩; have HB7 : Hid (Below w.heap.size w w7) := Lib.hid (HB6.out.trans (hb7.mono HB6.out.size)); clear hb7)
            | (go_at_call 39; refine (H4.out w7 HB7.out).out.mono ?_; clear H4; rintro e w8 ⟨rfl, hb8⟩; have HB8 : Hid (Below w.heap.size w w8) := Lib.hid (HB7.out.trans (hb8.mono HB7.out.size)); clear hb8)
            | (go_at_call 33; refine (HNUMc.out w8 _).out.mono ?_; clear HNUMc; rintro e w9 ⟨rfl, hb9⟩)
            | fail)
          go_ret
          exact ⟨rfl, HB8.out.trans (hb9.mono HB8.out.size)⟩
      · intro J K' hJ hK'
        rcases hU2 with ⟨rfl, rfl⟩ | ⟨hne, rfl⟩
        · go_wp2_with fail
          exact Met.intro (hJ _ _ ⟨isU (fun U => ⟨#[.pointer (some ⟨p, 0, none⟩), .int .i64 u, .int .i64 f, U 3, U 4, U 5, U 6, U 7, .int .i64 (u : Int), U 9, U 10, .int .i64 (-1), U 12, U 13, U 14, U 15, U 16, U 17, U 18, U 19, U 20, U 21, U 22, U 23, U 24, U 25, U 26, U 27, U 28, U 29, U 30, U 31, U 32, U 33, U 34, U 35, U 36, U 37, U 38, U 39, U 40, U 41, U 42, U 43, U 44, U 45, U 46, U 47, U 48, U 49, U 50, U 51, U 52, U 53, U 54, U 55, U 56, U 57, U 58, U 59, U 60, U 61, U 62, U 63, U 64, U 65, U 66, U 67, U 68, U 69, U 70, U 71, U 72, U 73, U 74, U 75, U 76, U 77, U 78, U 79, U 80, U 81, U 82, U 83, U 84, U 85, U 86, U 87, U 88, U 89, U 90, U 91, U 92, U 93, U 94, U 95, U 96, U 97, U 98, U 99, U 100, U 101, U 102, U 103, U 104, U 105, U 106], []⟩) rfl, rfl⟩)
        · have hne' : ((u : Int) == -1) = false := beq_eq_false_iff_ne.2 hne
          go_wp2_with fail
          exact Met.intro (hJ _ _ ⟨isU (fun U => ⟨#[.pointer (some ⟨p, 0, none⟩), .int .i64 n, .int .i64 f, U 3, U 4, U 5, U 6, U 7, .int .i64 (u : Int), U 9, U 10, .int .i64 (u : Int), U 12, U 13, U 14, U 15, U 16, U 17, U 18, U 19, U 20, U 21, U 22, U 23, U 24, U 25, U 26, U 27, U 28, U 29, U 30, U 31, U 32, U 33, U 34, U 35, U 36, U 37, U 38, U 39, U 40, U 41, U 42, U 43, U 44, U 45, U 46, U 47, U 48, U 49, U 50, U 51, U 52, U 53, U 54, U 55, U 56, U 57, U 58, U 59, U 60, U 61, U 62, U 63, U 64, U 65, U 66, U 67, U 68, U 69, U 70, U 71, U 72, U 73, U 74, U 75, U 76, U 77, U 78, U 79, U 80, U 81, U 82, U 83, U 84, U 85, U 86, U 87, U 88, U 89, U 90, U 91, U 92, U 93, U 94, U 95, U 96, U 97, U 98, U 99, U 100, U 101, U 102, U 103, U 104, U 105, U 106], []⟩) rfl, rfl⟩)
    · intro J K' hJ hK'
      rcases hT2 with ⟨rfl, rfl⟩ | ⟨hne, he⟩
      · go_wp2_with fail
        exact Met.intro (hJ _ _ ⟨isU (fun U => ⟨#[.pointer (some ⟨p, 0, none⟩), .int .i64 t, .int .i64 f, U 3, U 4, U 5, U 6, U 7, U 8, U 9, U 10, U 11, U 12, U 13, U 14, U 15, U 16, U 17, U 18, U 19, U 20, U 21, U 22, U 23, U 24, U 25, U 26, U 27, U 28, U 29, U 30, U 31, U 32, U 33, U 34, U 35, U 36, U 37, U 38, U 39, U 40, U 41, U 42, U 43, U 44, U 45, U 46, U 47, U 48, U 49, U 50, U 51, U 52, U 53, U 54, U 55, U 56, U 57, U 58, U 59, U 60, U 61, U 62, U 63, U 64, U 65, U 66, U 67, U 68, U 69, U 70, U 71, U 72, U 73, U 74, U 75, U 76, U 77, U 78, U 79, U 80, U 81, U 82, U 83, U 84, U 85, U 86, U 87, U 88, U 89, U 90, U 91, U 92, U 93, U 94, U 95, U 96, U 97, U 98, U 99, U 100, U 101, U 102, U 103, U 104, U 105, U 106], []⟩) rfl, HB3.out⟩)
      · have hne2 : (T != -1) = true := bne_iff_ne.2 hne
        obtain ⟨he3, h3⟩ := HC3.out hne
        have H3 := Lib.hid h3
        clear he h3 hne
        subst he3
        go_wp2_with (first
          | (go_at_call 39; refine (H3.out w3 HB3.out).out.mono ?_; clear H3; rintro e w8 ⟨rfl, hb8⟩; have HB8 : Hid (Below w.heap.size w w8) := Lib.hid (HB3.out.trans (hb8.mono HB3.out.size)); clear hb8)
          | (go_at_call 33; refine (HNUMc.out w8 _).out.mono ?_; clear HNUMc; rintro e w9 ⟨rfl, hb9⟩)
          | fail)
        exact Met.intro (hJ _ _ ⟨isU (fun U => ⟨#[.pointer (some ⟨p, 0, none⟩), .int .i64 n, .int .i64 f, U 3, U 4, U 5, U 6, U 7, U 8, U 9, U 10, U 11, U 12, U 13, U 14, U 15, U 16, U 17, U 18, U 19, U 20, U 21, U 22, U 23, U 24, U 25, U 26, U 27, U 28, U 29, U 30, U 31, U 32, U 33, U 34, U 35, U 36, U 37, U 38, U 39, U 40, U 41, U 42, U 43, U 44, U 45, U 46, U 47, U 48, U 49, U 50, U 51, U 52, U 53, U 54, U 55, U 56, U 57, U 58, U 59, U 60, U 61, U 62, U 63, U 64, U 65, U 66, U 67, U 68, U 69, U 70, U 71, U 72, U 73, U 74, U 75, U 76, U 77, U 78, U 79, U 80, U 81, U 82, U 83, U 84, U 85, U 86, U 87, U 88, U 89, U 90, U 91, U 92, U 93, U 94, U 95, U 96, U 97, U 98, U 99, U 100, U 101, U 102, U 103, U 104, U 105, U 106], []⟩) rfl, HB8.out.trans (hb9.mono HB8.out.size)⟩)
  · intro J K' hJ hK'
    rcases hT2 with ⟨rfl, rfl⟩ | ⟨hne, rfl⟩
    · go_wp2_with fail
      exact Met.intro (hJ _ _ ⟨isU (fun U => ⟨#[.pointer (some ⟨p, 0, none⟩), .int .i64 t, .int .i64 f, U 3, U 4, U 5, U 6, .int .i64 (-1), .int .i64 (t : Int), U 9, U 10, U 11, U 12, U 13, U 14, U 15, U 16, U 17, U 18, U 19, U 20, U 21, U 22, U 23, U 24, U 25, U 26, U 27, U 28, U 29, U 30, U 31, U 32, U 33, U 34, U 35, U 36, U 37, U 38, U 39, U 40, U 41, U 42, U 43, U 44, U 45, U 46, U 47, U 48, U 49, U 50, U 51, U 52, U 53, U 54, U 55, U 56, U 57, U 58, U 59, U 60, U 61, U 62, U 63, U 64, U 65, U 66, U 67, U 68, U 69, U 70, U 71, U 72, U 73, U 74, U 75, U 76, U 77, U 78, U 79, U 80, U 81, U 82, U 83, U 84, U 85, U 86, U 87, U 88, U 89, U 90, U 91, U 92, U 93, U 94, U 95, U 96, U 97, U 98, U 99, U 100, U 101, U 102, U 103, U 104, U 105, U 106], []⟩) rfl, rfl⟩)
    · have hne' : ((t : Int) == -1) = false := beq_eq_false_iff_ne.2 hne
      go_wp2_with fail
      exact Met.intro (hJ _ _ ⟨isU (fun U => ⟨#[.pointer (some ⟨p, 0, none⟩), .int .i64 n, .int .i64 f, U 3, U 4, U 5, U 6, .int .i64 (t : Int), .int .i64 (t : Int), U 9, U 10, U 11, U 12, U 13, U 14, U 15, U 16, U 17, U 18, U 19, U 20, U 21, U 22, U 23, U 24, U 25, U 26, U 27, U 28, U 29, U 30, U 31, U 32, U 33, U 34, U 35, U 36, U 37, U 38, U 39, U 40, U 41, U 42, U 43, U 44, U 45, U 46, U 47, U 48, U 49, U 50, U 51, U 52, U 53, U 54, U 55, U 56, U 57, U 58, U 59, U 60, U 61, U 62, U 63, U 64, U 65, U 66, U 67, U 68, U 69, U 70, U 71, U 72, U 73, U 74, U 75, U 76, U 77, U 78, U 79, U 80, U 81, U 82, U 83, U 84, U 85, U 86, U 87, U 88, U 89, U 90, U 91, U 92, U 93, U 94, U 95, U 96, U 97, U 98, U 99, U 100, U 101, U 102, U 103, U 104, U 105, U 106], []⟩) rfl, rfl⟩)
end Go.Proofs.YtckbckdaffdjmaaDoor

/- The law's own function listed. -/
namespace Go.Proofs.YtckbckdaffdjmaaDoor
open Go.RowKit
set_option maxRecDepth 100000
set_option linter.unusedVariables false
set_option linter.unusedSimpArgs false

namespace Bm
def listedB (n : Int) (V : List UInt64) : Bool := decide (1 ≤ n ∧ n ≤ 65536) && (validE n.toNat V == 0)
end Bm
set_option maxHeartbeats 4000000 in
theorem lawlisted_calls {w : World} {n : Int} {v : Value} {V : List UInt64} (hv : RU w v V) (hn : (Lit.int .i64 n).wf = true) : Pur Tryd.prog 26 #[.int .i64 n, v] w (.bool (Bm.listedB n V)) := by
  unfold Pur
  obtain ⟨p, cp, rfl, k1, k2, k3, hr⟩ := hv
  have hw := i64_wf hn
  obtain ⟨L, hL⟩ : ∃ L, L = V.length := ⟨_, rfl⟩
  have HL := Lib.hid hL
  rw [← hL] at k1 k3 ⊢
  have hL9 : (L : Int) ≤ 17592186044416 := by omega
  clear hn
  by_cases h1 : n < 1
  · have hb : Bm.listedB n V = false := by unfold Bm.listedB; rw [decide_eq_false (by omega)]; rfl
    rw [hb]
    clear hr hL k1 k2 k3 hw
    go_enter Tryd.func26, Tryd.ntmps26
    go_wp2_with fail
    go_ret
    exact ⟨rfl, Below.refl _ _⟩
  · by_cases h2 : 65536 < n
    · have hb : Bm.listedB n V = false := by unfold Bm.listedB; rw [decide_eq_false (by omega)]; rfl
      rw [hb]
      clear hr hL k1 k2 k3 hw
      go_enter Tryd.func26, Tryd.ntmps26
      go_wp2_with fail
      go_ret
      exact ⟨rfl, Below.refl _ _⟩
    · obtain ⟨m, rfl⟩ : ∃ m : Nat, n = m := ⟨n.toNat, by omega⟩
      have hbb : Bm.listedB (m : Int) V = (Bm.validE m V == 0) := by unfold Bm.listedB; rw [decide_eq_true (by omega), Bool.true_and, Int.toNat_natCast]
      rw [hbb]
      have hrm : Bm.room m = (m + 63) / 64 := rfl
      by_cases h3 : L = Bm.room m
      · obtain ⟨x, hx⟩ : ∃ x, V[L - 1]? = some x := ⟨V[L - 1], List.getElem?_eq_getElem (by omega)⟩
        obtain ⟨g, o, rfl, hg, hc⟩ := hr _ _ hx
        have hx' : V.getD (V.length - 1) 0 = x := by rw [List.getD_eq_getElem?_getD, ← hL, hx]; rfl
        have hve : Bm.validE m V = if m % 64 ≠ 0 ∧ x.toNat / 2 ^ (m % 64) ≠ 0 then 2 else 0 := by unfold Bm.validE; rw [if_neg (by omega), hx']
        have hdiv := div_nat x.toNat (m % 64)
        have hq : ((m : Int) + 63) / 64 = (L : Int) := by omega
        have hl1 : (L : Int) - 1 = ((L - 1 : Nat) : Int) := by omega
        have hl2 : ((L - 1 : Nat) : Int) < (L : Int) := by omega
        have hl3 : (0 : Int) ≤ ((L - 1 : Nat) : Int) := by omega
        have hm1 : (1 : Int) ≤ (m : Int) := by omega
        have hm2 : (m : Int) ≤ 65536 := by omega
        obtain ⟨d, hd⟩ : ∃ d, d = x.toNat / 2 ^ (m % 64) := ⟨_, rfl⟩
        rw [← hd] at hdiv hve
        by_cases e2 : m % 64 = 0
        · have hb : (Bm.validE m V == 0) = true := by rw [hve, if_neg (by simp [e2])]; rfl
          rw [hb]
          have hmm : (m : Int) % 64 = 0 := by omega
          clear hr hL hx hx' hve hdiv hd hrm h3 k1 k3 hw hbb hb e2 h1 h2
          go_enter Tryd.func26, Tryd.ntmps26
          go_wp2_with fail
          go_ret
          exact ⟨rfl, Below.refl _ _⟩
        · have hmm : ((m : Int) % 64 == 0) = false := by simp; omega
          by_cases e3 : d = 0
          · have hb : (Bm.validE m V == 0) = true := by rw [hve, if_neg (by simp [e3])]; rfl
            rw [hb]
            have hdd : ((d : Int) == 0) = true := by rw [e3]; rfl
            clear hr hL hx hx' hve hd hrm h3 k1 k3 hw hbb hb e2 h1 h2 e3
            go_enter Tryd.func26, Tryd.ntmps26
            go_wp2_with fail
            go_ret
            exact ⟨rfl, Below.refl _ _⟩
          · have hb : (Bm.validE m V == 0) = false := by rw [hve, if_pos ⟨e2, e3⟩]; rfl
            rw [hb]
            have hdd : ((d : Int) == 0) = false := beq_eq_false_iff_ne.2 fun e => e3 (Int.ofNat_inj.1 e)
            clear hr hL hx hx' hve hd hrm h3 k1 k3 hw hbb hb e2 h1 h2 e3
            go_enter Tryd.func26, Tryd.ntmps26
            go_wp2_with fail
            go_ret
            exact ⟨rfl, Below.refl _ _⟩
      · have hb : (Bm.validE m V == 0) = false := by unfold Bm.validE; rw [if_pos (by omega)]; rfl
        rw [hb]
        have hq : ((L : Int) != ((m : Int) + 63) / 64) = true := bne_iff_ne.2 (by omega)
        have hm1 : (1 : Int) ≤ (m : Int) := by omega
        have hm2 : (m : Int) ≤ 65536 := by omega
        clear hr hL hrm h3 k1 k3 hw hbb hb h1 h2
        go_enter Tryd.func26, Tryd.ntmps26
        go_wp2_with fail
        go_ret
        exact ⟨rfl, Below.refl _ _⟩
end Go.Proofs.YtckbckdaffdjmaaDoor

/- Regions that draw their order and hold several operations that make memory: each operation by itself, at any order: what each slot holds (V) is told of the world, and must outlast the others. -/
namespace Go.Proofs.YtckbckdaffdjmaaDoor
open Go.RowKit
set_option linter.unusedSimpArgs false
namespace Og
/-- The frame is φ. -/
def Fr (n : Nat) (a : Act) (φ : Nat → Value) : Prop := a.defers = [] ∧ a.tmps.size = n ∧ ∀ t, a.tmps.getD t undef = φ t
def upd (φ : Nat → Value) (d : Nat) (v : Value) : Nat → Value := fun t => if t = d then v else φ t
def ev (φ : Nat → Value) : Operand → Value
  | .tmp t => φ t
  | .const v => v
  | .global g => .pointer (some ⟨g, 0, none⟩)
  | .func f => .func (.func f) #[] #[]
theorem Fr.eval {n : Nat} {a : Act} {φ : Nat → Value} (h : Fr n a φ) : a.eval = ev φ := by
  funext x
  cases x with
  | tmp t => exact h.2.2 t
  | const v => rfl
  | global g => rfl
  | func f => rfl
theorem Fr.put {n : Nat} {a : Act} {φ : Nat → Value} (h : Fr n a φ) (d : Nat) (v : Value) (hd : d < n) : Fr n (a.put (some d) v) (upd φ d v) := by
  obtain ⟨h1, h2, h3⟩ := h
  refine ⟨h1, by simpa [Act.put] using h2, fun t => ?_⟩
  have := h3 t
  simp only [Act.put, upd, Array.getD_eq_getD_getElem?] at this ⊢
  by_cases e : t = d
  · subst e
    simp [Array.getElem?_setIfInBounds, h2, hd]
  · rw [if_neg e, Array.getElem?_setIfInBounds_ne (Ne.symm e)]
    exact this
theorem Fr.lit {n : Nat} {t : Array Value} (hn : t.size = n) : Fr n ⟨t, []⟩ (fun k => t.getD k undef) := ⟨rfl, hn, fun _ => rfl⟩

theorem Fr.lit_eq {n : Nat} {a : Act} {φ : Nat → Value} (h : Fr n a φ) : a = ⟨((List.range n).map φ).toArray, []⟩ := by
  obtain ⟨t, d⟩ := a
  obtain ⟨h1, h2, h3⟩ := h
  simp only at h1 h2 h3
  subst h1
  congr 1
  apply Array.ext
  · simpa using h2
  · intro i hi _
    have := h3 i
    simp only [Array.getD_eq_getD_getElem?, Array.getElem?_eq_getElem hi, Option.getD_some] at this
    simpa using this
theorem Fr.lit_ex {n : Nat} {a : Act} {φ : Nat → Value} (h : Fr n a φ) (F : (Nat → Value) → Act) (he : (⟨((List.range n).map φ).toArray, []⟩ : Act) = F φ) : ∃ U, a = F U := ⟨φ, h.lit_eq.trans he⟩
def isData : Edge → Bool
  | ⟨_, .data⟩ => true
  | ⟨_, .guard⟩ => true
  | _ => false
/-- Is the operation wanted in that frame? -/
def wantF (l : List Oper) (φ : Nat → Value) (o : Oper) : Bool := Region.wanted o fun j => match (l[j]?).bind (·.dst) with
  | some d => match φ d with
    | .bool b => some b
    | _ => none
  | none => none
/-- Does the operation use what operation j yields? -/
def usesB (o : Oper) (j : Nat) : Bool := o.after.toList.any fun e => isData e && e.on == j
/-- Must operation j be done ahead of the operation? -/
def tiedB (o : Oper) (j : Nat) : Bool := o.after.toList.any fun e => Region.binds .any e && e.on == j
def isDst (l : List Oper) (t : Nat) : Bool := l.any fun o => o.dst == some t
/-- Must what operation j yields outlast operation i? -/
def need (l : List Oper) (F : Nat → Bool) (j i : Nat) : Bool := j != i && !(match l[j]? with | some o => tiedB o i | none => false) && (F j || (List.range l.length).any fun k => k != i && match l[k]? with
  | some o => usesB o j
  | none => false)
/-- May operation j still be to come when operation i is done? -/
def open_ (l : List Oper) (j i : Nat) : Bool := j != i && !(match l[i]? with | some o => tiedB o j | none => false)
def wellB (l : List Oper) (n : Nat) : Bool :=
  (l.all fun o => match o.dst with | some d => decide (d < n) | none => true) && decide (l.filterMap (·.dst)).Nodup &&
  ((List.range l.length).all fun i => match l[i]? with | some o => o.after.all (fun e => !Region.binds .any e || decide (e.on < i)) | none => true)

section
variable {P : Program} {l : List Oper} {F : Nat → Bool} {V : Nat → Value → World → Prop} {R : World → Prop} {T : Nat → World → Prop} {φ0 : Nat → Value} {n : Nat}

/-- What operation i leaves. -/
structure Good (l : List Oper) (F : Nat → Bool) (V : Nat → Value → World → Prop) (R : World → Prop) (T : Nat → World → Prop) (i : Nat) (v : Value) (w w' : World) : Prop where
  keep : R w'
  val : V i v w'
  tok : ∀ j, open_ l j i = true → T j w → T j w'
  rest : ∀ j u, need l F j i = true → V j u w → V j u w'
def OpOk (P : Program) (l : List Oper) (F : Nat → Bool) (V : Nat → Value → World → Prop) (R : World → Prop) (T : Nat → World → Prop) (φ0 : Nat → Value) (i : Nat) (o : Oper) : Prop :=
  ∀ φ w, R w → T i w → (∀ t, isDst l t = false → φ t = φ0 t) → (∀ e ∈ o.after, isData e = true → ∀ oj d, l[e.on]? = some oj → oj.dst = some d → V e.on (φ d) w) →
    (wantF l φ o = true → match (execOp (ev φ) o).run P w with
    | .ok (.value v) w' => Good l F V R T i v w w'
    | .ok .skip w' => Good l F V R T i undef w w'
    | .ok (.enter f args) w' => Calls P f args w' fun e w'' => ∃ v, e = .returned v ∧ Good l F V R T i v w w''
    | _ => False) ∧ (wantF l φ o = false → Good l F V R T i undef w w)

/-- The frame and the world where some are done. -/
def Inv (l : List Oper) (F : Nat → Bool) (V : Nat → Value → World → Prop) (R : World → Prop) (T : Nat → World → Prop) (φ0 : Nat → Value) (n : Nat) (listed : Array Bool) (a : Act) (w : World) : Prop :=
  ∃ φ, Fr n a φ ∧ R w ∧ (∀ i, i < l.length → listed.getD i true = false → T i w) ∧ (∀ j oj, l[j]? = some oj → listed.getD j true = true → ∀ e ∈ oj.after, Region.binds .any e = true → listed.getD e.on false = true) ∧ (∀ t, isDst l t = false → φ t = φ0 t) ∧
    (∀ j oj d, l[j]? = some oj → oj.dst = some d → listed.getD j true = true → (F j = true ∨ ∃ k ok, l[k]? = some ok ∧ listed.getD k true = false ∧ usesB ok j = true) → V j (φ d) w) ∧
    ∀ j oj, l[j]? = some oj → oj.dst = none → listed.getD j true = true → (F j = true ∨ ∃ k ok, l[k]? = some ok ∧ listed.getD k true = false ∧ usesB ok j = true) → ∃ u, V j u w

theorem dst_ne (hn : (l.filterMap (·.dst)).Nodup) {i j d : Nat} {oi oj : Oper} (hi : l[i]? = some oi) (hj : l[j]? = some oj) (di : oi.dst = some d) (dj : oj.dst = some d) : i = j := by
  induction l generalizing i j with
  | nil => simp at hi
  | cons x l ih =>
    have hmem : ∀ (k : Nat) (o : Oper), l[k]? = some o → o.dst = some d → d ∈ l.filterMap (·.dst) := fun k o hk ho => List.mem_filterMap.2 ⟨o, List.mem_of_getElem? hk, ho⟩
    cases hx : x.dst with
    | none =>
      have hn' : (l.filterMap (·.dst)).Nodup := by simpa [List.filterMap_cons, hx] using hn
      cases i with
      | zero => simp only [List.getElem?_cons_zero, Option.some.injEq] at hi; subst hi; rw [hx] at di; cases di
      | succ i =>
        cases j with
        | zero => simp only [List.getElem?_cons_zero, Option.some.injEq] at hj; subst hj; rw [hx] at dj; cases dj
        | succ j => exact congrArg (· + 1) (ih hn' (by simpa using hi) (by simpa using hj))
    | some y =>
      have hn2 : y ∉ l.filterMap (·.dst) ∧ (l.filterMap (·.dst)).Nodup := by simpa [List.filterMap_cons, hx] using hn
      cases i with
      | zero =>
        simp only [List.getElem?_cons_zero, Option.some.injEq] at hi; subst hi
        rw [hx] at di; cases di
        cases j with
        | zero => rfl
        | succ j => exact absurd (hmem j oj (by simpa using hj) dj) hn2.1
      | succ i =>
        cases j with
        | zero =>
          simp only [List.getElem?_cons_zero, Option.some.injEq] at hj; subst hj
          rw [hx] at dj; cases dj
          exact absurd (hmem i oi (by simpa using hi) di) hn2.1
        | succ j => exact congrArg (· + 1) (ih hn2.2 (by simpa using hi) (by simpa using hj))

theorem isDst_of {t k : Nat} {o : Oper} (hk : l[k]? = some o) (h : o.dst = some t) : isDst l t = true := List.any_eq_true.2 ⟨o, List.mem_of_getElem? hk, by simp [h]⟩

theorem Inv.step (hB : wellB l n = true) {listed : Array Bool} (hs : listed.size = l.length) {i : Nat} {o : Oper} (hi : l[i]? = some o) (hun : listed.getD i true = false) {φ : Nat → Value} {a : Act} {w w' : World} {v : Value}
    (hF : Fr n a φ) (htk : ∀ i, i < l.length → listed.getD i true = false → T i w) (hdc : ∀ j oj, l[j]? = some oj → listed.getD j true = true → ∀ e ∈ oj.after, Region.binds .any e = true → listed.getD e.on false = true) (hdi : ∀ e ∈ o.after, Region.binds .any e = true → listed.getD e.on false = true) (h0 : ∀ t, isDst l t = false → φ t = φ0 t)
    (hv : ∀ j oj d, l[j]? = some oj → oj.dst = some d → listed.getD j true = true → (F j = true ∨ ∃ k ok, l[k]? = some ok ∧ listed.getD k true = false ∧ usesB ok j = true) → V j (φ d) w)
    (hvn : ∀ j oj, l[j]? = some oj → oj.dst = none → listed.getD j true = true → (F j = true ∨ ∃ k ok, l[k]? = some ok ∧ listed.getD k true = false ∧ usesB ok j = true) → ∃ u, V j u w)
    (hg : Good l F V R T i v w w') : Inv l F V R T φ0 n (listed.setIfInBounds i true) (a.put o.dst v) w' := by
  simp only [wellB, Bool.and_eq_true, decide_eq_true_eq, List.all_eq_true] at hB
  obtain ⟨⟨hall, hnd⟩, hord⟩ := hB
  have ho := hall o (List.mem_of_getElem? hi)
  obtain ⟨hk, hval, htok, hrest⟩ := hg
  have htk' : ∀ j, j < l.length → (listed.setIfInBounds i true).getD j true = false → T j w' := fun j hj hl => by
    by_cases e : j = i
    · subst e
      have : (listed.setIfInBounds j true).getD j true = true := by simp [Array.getD_eq_getD_getElem?, Array.getElem?_setIfInBounds, hs, hj]
      rw [this] at hl; cases hl
    · rw [getD_set_ne true (Ne.symm e)] at hl
      refine htok j ?_ (htk j hj hl)
      have hnu : tiedB o j = false := by
        cases hu : tiedB o j with
        | false => rfl
        | true =>
          obtain ⟨e1, he, hee⟩ := List.any_eq_true.1 hu
          simp only [Bool.and_eq_true, beq_iff_eq] at hee
          have h3 := hdi e1 (Array.mem_toList_iff.1 he) hee.1
          rw [hee.2] at h3
          have hlt : j < listed.size := by omega
          simp [Array.getD_eq_getD_getElem?, hlt] at hl h3
          rw [hl] at h3; cases h3
      simp [open_, e, hi, hnu]
  have hdc' : ∀ j oj, l[j]? = some oj → (listed.setIfInBounds i true).getD j true = true → ∀ e ∈ oj.after, Region.binds .any e = true → (listed.setIfInBounds i true).getD e.on false = true := fun j oj hj hl e he hb => by
    by_cases e' : j = i
    · subst e'
      obtain rfl : o = oj := Option.some.inj (hi.symm.trans hj)
      exact getD_set_true (hdi e he hb)
    · rw [getD_set_ne true (Ne.symm e')] at hl
      exact getD_set_true (hdc j oj hj hl e he hb)
  have needs : ∀ j oj, j ≠ i → l[j]? = some oj → listed.getD j true = true → (F j = true ∨ ∃ k ok, l[k]? = some ok ∧ (listed.setIfInBounds i true).getD k true = false ∧ usesB ok j = true) →
      need l F j i = true ∧ (F j = true ∨ ∃ k ok, l[k]? = some ok ∧ listed.getD k true = false ∧ usesB ok j = true) := by
      intro j oj hji hj hl hlive
      have hnu : tiedB oj i = false := by
        cases hu : tiedB oj i with
        | false => rfl
        | true =>
          obtain ⟨e, he, hee⟩ := List.any_eq_true.1 hu
          simp only [Bool.and_eq_true, beq_iff_eq] at hee
          have h3 := hdc j oj hj hl e (Array.mem_toList_iff.1 he) hee.1
          rw [hee.2] at h3
          have hlt : i < listed.size := by rw [hs]; exact (List.getElem?_eq_some_iff.1 hi).1
          simp [Array.getD_eq_getD_getElem?, hlt] at hun h3
          rw [hun] at h3; cases h3
      have hneed : need l F j i = true ∧ (F j = true ∨ ∃ k ok, l[k]? = some ok ∧ listed.getD k true = false ∧ usesB ok j = true) := by
        rcases hlive with hf | ⟨k, ok, hk', hku, huse⟩
        · exact ⟨by simp [need, hji, hf, hj, hnu], .inl hf⟩
        · by_cases hki : k = i
          · subst hki
            have : (listed.setIfInBounds k true).getD k true = true := by
              have hlt : k < listed.size := by rw [hs]; exact (List.getElem?_eq_some_iff.1 hi).1
              simp [Array.getD_eq_getD_getElem?, Array.getElem?_setIfInBounds, hlt]
            rw [this] at hku; cases hku
          · rw [getD_set_ne true (Ne.symm hki)] at hku
            refine ⟨?_, .inr ⟨k, ok, hk', hku, huse⟩⟩
            simp only [need, Bool.and_eq_true, bne_iff_ne, ne_eq, Bool.or_eq_true, List.any_eq_true, List.mem_range]
            exact ⟨⟨hji, by rw [hj]; simpa using hnu⟩, .inr ⟨k, (List.getElem?_eq_some_iff.1 hk').1, hki, by rw [hk']; exact huse⟩⟩
      exact hneed
  have key : ∀ (φ' : Nat → Value), (∀ d, o.dst = some d → φ' d = v) → (∀ t, o.dst ≠ some t → φ' t = φ t) → ∀ j oj d, l[j]? = some oj → oj.dst = some d → (listed.setIfInBounds i true).getD j true = true →
      (F j = true ∨ ∃ k ok, l[k]? = some ok ∧ (listed.setIfInBounds i true).getD k true = false ∧ usesB ok j = true) → V j (φ' d) w' := by
    intro φ' h1 h2 j oj d hj hd hl hlive
    by_cases hji : j = i
    · subst hji
      obtain rfl : o = oj := Option.some.inj (hi.symm.trans hj)
      rw [h1 d hd]; exact hval
    · have hne : o.dst ≠ some d := fun e => hji (dst_ne hnd hj hi hd e)
      rw [h2 d hne]
      rw [getD_set_ne true (Ne.symm hji)] at hl
      have hneed := needs j oj hji hj hl hlive
      exact hrest j _ hneed.1 (hv j oj d hj hd hl hneed.2)
  have keyn : ∀ j oj, l[j]? = some oj → oj.dst = none → (listed.setIfInBounds i true).getD j true = true →
      (F j = true ∨ ∃ k ok, l[k]? = some ok ∧ (listed.setIfInBounds i true).getD k true = false ∧ usesB ok j = true) → ∃ u, V j u w' := by
    intro j oj hj hd hl hlive
    by_cases hji : j = i
    · subst hji
      exact ⟨v, hval⟩
    · rw [getD_set_ne true (Ne.symm hji)] at hl
      have hneed := needs j oj hji hj hl hlive
      obtain ⟨u, hu⟩ := hvn j oj hj hd hl hneed.2
      exact ⟨u, hrest j u hneed.1 hu⟩
  cases hd : o.dst with
  | none => exact ⟨φ, hF, hk, htk', hdc', h0, key φ (fun d e => by rw [hd] at e; cases e) (fun _ _ => rfl), keyn⟩
  | some d =>
    have hlt : d < n := by have := ho; rw [hd] at this; simpa using this
    refine ⟨upd φ d v, hF.put d v hlt, hk, htk', hdc', fun t ht => ?_, key _ (fun d' e => ?_) (fun t e => ?_), keyn⟩
    · have : t ≠ d := fun e => by subst e; rw [isDst_of hi hd] at ht; cases ht
      simp only [upd, if_neg this]; exact h0 t ht
    · rw [hd] at e; cases e; simp [upd]
    · have : t ≠ d := fun e' => e (by rw [hd, e'])
      simp only [upd, if_neg this]

theorem ready_some (hB : wellB l n = true) {listed : Array Bool} (hs : listed.size = l.length) (hr : Region.ready .any l.toArray listed = []) : ∀ i, i < l.length → listed.getD i true = true := by
  simp only [wellB, Bool.and_eq_true, decide_eq_true_eq, List.all_eq_true, List.mem_range] at hB
  obtain ⟨_, hord⟩ := hB
  intro i
  induction i using Nat.strongRecOn with
  | ind i ih =>
    intro hi
    cases h : listed.getD i true with
    | true => rfl
    | false =>
      have hmem : i ∈ Region.ready .any l.toArray listed := by
        refine mem_ready.2 ⟨h, l[i], by simp [hi], fun e he hbd => ?_⟩
        have h1 := hord i hi
        rw [List.getElem?_eq_getElem hi] at h1
        have h2 : e.on < i := by simpa [hbd] using Array.all_eq_true_iff_forall_mem.1 h1 e he
        have h3 := ih e.on h2 (by omega)
        have hlt : e.on < listed.size := by omega
        simpa [Array.getD_eq_getD_getElem?, hlt] using h3
      rw [hr] at hmem; cases hmem

theorem wpAny_inv (hB : wellB l n = true) {Q : Exit → Act → World → Prop} (hstep : ∀ i o, l[i]? = some o → OpOk P l F V R T φ0 i o)
    (hend : ∀ φ a w, Fr n a φ → R w → (∀ t, isDst l t = false → φ t = φ0 t) → (∀ j o d, F j = true → l[j]? = some o → o.dst = some d → V j (φ d) w) → (∀ j o, F j = true → l[j]? = some o → o.dst = none → ∃ u, V j u w) → Q .normal a w) :
    ∀ (f : Nat) (listed : Array Bool) (a : Act) (w : World), listed.size = l.length → (f = 0 → ∀ i, i < l.length → listed.getD i true = true) → (List.range l.length).countP (fun i => !listed.getD i true) = f → Inv l F V R T φ0 n listed a w → wpAny P .any l.toArray Q f listed a w := by
  have fin : ∀ (listed : Array Bool) (a : Act) (w : World), (∀ i, i < l.length → listed.getD i true = true) → Inv l F V R T φ0 n listed a w → Q .normal a w := by
    rintro listed a w hall ⟨φ, hF, hR, htk, hdc, h0, hv, hvn⟩
    exact hend φ a w hF hR h0 (fun j o d hf hj hd => hv j o d hj hd (hall j (List.getElem?_eq_some_iff.1 hj).1) (.inl hf)) (fun j o hf hj hd => hvn j o hj hd (hall j (List.getElem?_eq_some_iff.1 hj).1) (.inl hf))
  intro f
  induction f with
  | zero =>
    intro listed a w hs h0 _ hI
    refine ⟨?_, fin listed a w (h0 rfl) hI⟩
    cases hr : Region.ready .any l.toArray listed with
    | nil => rfl
    | cons i r =>
      have hm : i ∈ Region.ready .any l.toArray listed := by rw [hr]; exact List.mem_cons_self ..
      obtain ⟨h1, o, ho, _⟩ := mem_ready.1 hm
      have hlt : i < l.length := by have := (Array.getElem?_eq_some_iff.1 ho).1; simpa using this
      rw [h0 rfl i hlt] at h1; cases h1
  | succ f ih =>
    intro listed a w hs _ hc hI
    refine ⟨fun hr => fin listed a w (ready_some hB hs hr) hI, fun i hm => ?_⟩
    obtain ⟨hun, o, ho, hdep⟩ := mem_ready.1 hm
    have hio : l[i]? = some o := by simpa using ho
    have hlt : i < l.length := (List.getElem?_eq_some_iff.1 hio).1
    obtain ⟨φ, hF, hR, htk, hdc, h0, hv, hvn⟩ := hI
    have hok := hstep i o hio φ w hR (htk i hlt hun) h0 (fun e he hd oj d hj hdj => by
      have hb : Region.binds .any e = true := by
        obtain ⟨on, g⟩ := e
        cases g <;> first | rfl | cases hd
      have hl := hdep e he hb
      refine hv e.on oj d hj hdj ?_ (.inr ⟨i, o, hio, hun, ?_⟩)
      · cases hx : listed[e.on]? with
        | none => simp [Array.getD_eq_getD_getElem?, hx] at hl
        | some b => simpa [Array.getD_eq_getD_getElem?, hx] using hl
      · exact List.any_eq_true.2 ⟨e, Array.mem_toList_iff.2 he, by simp [hd]⟩)
    have hw : Region.wanted o (yielded l.toArray a.tmps) = wantF l φ o := by
      have hall : ∀ (k : Nat) (ok : Oper) (d : Nat), l[k]? = some ok → ok.dst = some d → d < n := fun k ok d hk hd => by
        have h1 := hB
        simp only [wellB, Bool.and_eq_true, List.all_eq_true] at h1
        have h2 := h1.1.1 ok (List.mem_of_getElem? hk)
        rw [hd] at h2
        simpa using h2
      unfold wantF Region.wanted
      cases o.guard with
      | none => rfl
      | some g =>
        obtain ⟨j, want⟩ := g
        have : yielded l.toArray a.tmps j = (match (l[j]?).bind (·.dst) with
          | some d => match φ d with
            | .bool b => some b
            | _ => none
          | none => none) := by
          unfold yielded
          rw [List.getElem?_toArray]
          cases hj : l[j]? with
          | none => rfl
          | some oj =>
            cases hd : oj.dst with
            | none => simp [hd]
            | some d =>
              have hlt2 : d < a.tmps.size := by rw [hF.2.1]; exact hall j oj d hj hd
              have h3 := hF.2.2 d
              simp only [Array.getD_eq_getD_getElem?, Array.getElem?_eq_getElem hlt2, Option.getD_some] at h3
              simp only [Option.bind_some, hd, Array.getElem?_eq_getElem hlt2, h3]
              cases φ d <;> rfl
        simp only [this]
    have next : ∀ v w', Good l F V R T i v w w' → wpAny P .any l.toArray Q f (listed.setIfInBounds i true) (a.put o.dst v) w' := fun v w' hg => by
      have hcount : (List.range l.length).countP (fun j => !(listed.setIfInBounds i true).getD j true) = f := by
        have hle : ∀ (m : Nat), m ≤ l.length → (List.range m).countP (fun j => !listed.getD j true) = (List.range m).countP (fun j => !(listed.setIfInBounds i true).getD j true) + (if i < m then 1 else 0) := by
          intro m
          induction m with
          | zero => intro _; simp
          | succ m ihm =>
            intro hm'
            rw [List.range_succ, List.countP_append, List.countP_append, ihm (by omega)]
            by_cases e : m = i
            · subst e
              have h1 : (listed.setIfInBounds m true).getD m true = true := by
                simp [Array.getD_eq_getD_getElem?, Array.getElem?_setIfInBounds, hs, hlt]
              simp only [List.countP_cons, List.countP_nil, hun, h1]
              simp
            · simp only [List.countP_cons, List.countP_nil, getD_set_ne true (Ne.symm e)]
              have : (i < m + 1) = (i < m) := by simp; omega
              simp only [this]
              omega
        have := hle l.length (Nat.le_refl _)
        rw [if_pos hlt] at this
        omega
      refine ih _ _ _ (by simpa using hs) (fun hf0 => ?_) hcount (Inv.step hB hs hio hun hF htk hdc hdep h0 hv hvn hg)
      subst hf0
      intro j hj
      have := List.countP_eq_zero.1 hcount j (List.mem_range.2 hj)
      simpa using this
    unfold wpOp
    simp only [ho]
    rw [hw]
    cases hwf : wantF l φ o with
    | false =>
      simp only [Bool.false_eq_true, if_false]
      exact next undef w (hok.2 hwf)
    | true =>
      simp only [if_true]
      refine .inl ?_
      have hok := hok.1 hwf
      unfold Oper.wp
      rw [hF.eval]
      generalize (execOp (ev φ) o).run P w = r at hok
      cases r with
      | ok x w' =>
        cases x <;> simp only [Oper.upon] <;> simp only at hok
        case value v => exact next v w' hok
        case skip => exact next undef w' hok
        case enter g args =>
          exact Calls.mono hok fun e w'' ⟨v, he, hg⟩ => by subst he; exact next v w'' hg
        all_goals exact hok.elim
      | halt x w' => exact hok.elim

/-- One operation, the others as they are. -/
theorem inv_op (hB : wellB l n = true) {Q : Exit → Act → World → Prop} (hstep : ∀ i o, l[i]? = some o → OpOk P l F V R T φ0 i o) {listed : Array Bool} {a : Act} {w : World} {i : Nat} {o : Oper} {K : Act → World → Prop} (hs : listed.size = l.length) (hio : l[i]? = some o) (hun : listed.getD i true = false)
    (hdep : ∀ e ∈ o.after, Region.binds .any e = true → listed.getD e.on false = true) (hI : Inv l F V R T φ0 n listed a w) (hK : ∀ a' w', Inv l F V R T φ0 n (listed.setIfInBounds i true) a' w' → K a' w') :
    if Region.wanted o (yielded l.toArray a.tmps) = true then o.wp P a w K Q else K (a.put o.dst undef) w := by
    have hlt : i < l.length := (List.getElem?_eq_some_iff.1 hio).1
    obtain ⟨φ, hF, hR, htk, hdc, h0, hv, hvn⟩ := hI
    have hok := hstep i o hio φ w hR (htk i hlt hun) h0 (fun e he hd oj d hj hdj => by
      have hb : Region.binds .any e = true := by
        obtain ⟨on, g⟩ := e
        cases g <;> first | rfl | cases hd
      have hl := hdep e he hb
      refine hv e.on oj d hj hdj ?_ (.inr ⟨i, o, hio, hun, ?_⟩)
      · cases hx : listed[e.on]? with
        | none => simp [Array.getD_eq_getD_getElem?, hx] at hl
        | some b => simpa [Array.getD_eq_getD_getElem?, hx] using hl
      · exact List.any_eq_true.2 ⟨e, Array.mem_toList_iff.2 he, by simp [hd]⟩)
    have hw : Region.wanted o (yielded l.toArray a.tmps) = wantF l φ o := by
      have hall : ∀ (k : Nat) (ok : Oper) (d : Nat), l[k]? = some ok → ok.dst = some d → d < n := fun k ok d hk hd => by
        have h1 := hB
        simp only [wellB, Bool.and_eq_true, List.all_eq_true] at h1
        have h2 := h1.1.1 ok (List.mem_of_getElem? hk)
        rw [hd] at h2
        simpa using h2
      unfold wantF Region.wanted
      cases o.guard with
      | none => rfl
      | some g =>
        obtain ⟨j, want⟩ := g
        have : yielded l.toArray a.tmps j = (match (l[j]?).bind (·.dst) with
          | some d => match φ d with
            | .bool b => some b
            | _ => none
          | none => none) := by
          unfold yielded
          rw [List.getElem?_toArray]
          cases hj : l[j]? with
          | none => rfl
          | some oj =>
            cases hd : oj.dst with
            | none => simp [hd]
            | some d =>
              have hlt2 : d < a.tmps.size := by rw [hF.2.1]; exact hall j oj d hj hd
              have h3 := hF.2.2 d
              simp only [Array.getD_eq_getD_getElem?, Array.getElem?_eq_getElem hlt2, Option.getD_some] at h3
              simp only [Option.bind_some, hd, Array.getElem?_eq_getElem hlt2, h3]
              cases φ d <;> rfl
        simp only [this]
    have next : ∀ v w', Good l F V R T i v w w' → K (a.put o.dst v) w' := fun v w' hg => hK _ _ (Inv.step hB hs hio hun hF htk hdc hdep h0 hv hvn hg)
    rw [hw]
    cases hwf : wantF l φ o with
    | false =>
      simp only [Bool.false_eq_true, if_false]
      exact next undef w (hok.2 hwf)
    | true =>
      simp only [if_true]
      have hok := hok.1 hwf
      unfold Oper.wp
      rw [hF.eval]
      generalize (execOp (ev φ) o).run P w = r at hok
      cases r with
      | ok x w' =>
        cases x <;> simp only [Oper.upon] <;> simp only at hok
        case value v => exact next v w' hok
        case skip => exact next undef w' hok
        case enter g args =>
          exact Calls.mono hok fun e w'' ⟨v, he, hg⟩ => by subst he; exact next v w'' hg
        all_goals exact hok.elim
      | halt x w' => exact hok.elim

theorem wpList_inv (hB : wellB l n = true) {Q : Exit → Act → World → Prop} (hstep : ∀ i o, l[i]? = some o → OpOk P l F V R T φ0 i o)
    (hend : ∀ φ a w, Fr n a φ → R w → (∀ t, isDst l t = false → φ t = φ0 t) → (∀ j o d, F j = true → l[j]? = some o → o.dst = some d → V j (φ d) w) → (∀ j o, F j = true → l[j]? = some o → o.dst = none → ∃ u, V j u w) → Q .normal a w) :
    ∀ (rest : List Oper) (k : Nat) (listed : Array Bool) (a : Act) (w : World), l.drop k = rest → listed.size = l.length → (∀ j, j < l.length → (listed.getD j true = true ↔ j < k)) → Inv l F V R T φ0 n listed a w → wpList P l.toArray Q rest a w
  | [], k, listed, a, w, hd, hs, hl, hI => by
    obtain ⟨φ, hF, hR, htk, hdc, h0, hv, hvn⟩ := hI
    have hall : ∀ j, j < l.length → listed.getD j true = true := fun j hj => (hl j hj).2 (by have := List.drop_eq_nil_iff.1 hd; omega)
    exact hend φ a w hF hR h0 (fun j o d hf hj hd => hv j o d hj hd (hall j (List.getElem?_eq_some_iff.1 hj).1) (.inl hf)) (fun j o hf hj hd => hvn j o hj hd (hall j (List.getElem?_eq_some_iff.1 hj).1) (.inl hf))
  | o :: rest, k, listed, a, w, hd, hs, hl, hI => by
    have hio : l[k]? = some o := by
      have := List.getElem?_drop (xs := l) (i := k) (j := 0)
      rw [hd] at this
      simpa using this.symm
    have hlt : k < l.length := (List.getElem?_eq_some_iff.1 hio).1
    have hun : listed.getD k true = false := by
      cases h : listed.getD k true with
      | false => rfl
      | true => exact absurd ((hl k hlt).1 h) (Nat.lt_irrefl k)
    have hdep : ∀ e ∈ o.after, Region.binds .any e = true → listed.getD e.on false = true := fun e he hb => by
      have h1 := hB
      simp only [wellB, Bool.and_eq_true, List.all_eq_true, List.mem_range] at h1
      have h2 := h1.2 k hlt
      rw [hio] at h2
      have h3 : e.on < k := by simpa [hb] using Array.all_eq_true_iff_forall_mem.1 h2 e he
      have h4 := (hl e.on (by omega)).2 h3
      have h5 : e.on < listed.size := by omega
      simpa [Array.getD_eq_getD_getElem?, h5] using h4
    have hdrop : l.drop (k + 1) = rest := by
      have : l.drop (k + 1) = (l.drop k).drop 1 := by rw [List.drop_drop]
      rw [this, hd]; rfl
    have h := inv_op (P := P) (Q := Q) (K := wpList P l.toArray Q rest) hB hstep hs hio hun hdep hI (fun a' w' hI' => wpList_inv hB hstep hend rest (k + 1) _ a' w' hdrop (by simpa using hs) (fun j hj => by
      by_cases e : j = k
      · subst e
        simp [Array.getD_eq_getD_getElem?, Array.getElem?_setIfInBounds, hs, hj]
      · rw [getD_set_ne true (Ne.symm e), hl j hj]
        omega) hI')
    unfold wpList
    split at h
    · rename_i hw
      rw [if_pos hw]
      exact .inl h
    · rename_i hw
      rw [if_neg hw]
      exact h
/-- The rule for a plain region. -/
theorem wp_region_plain {id : Nat} {Q : Exit → Act → World → Prop} {t0 : Array Value} {w : World} (l : List Oper) (F : Nat → Bool) (V : Nat → Value → World → Prop) (R : World → Prop) (T : Nat → World → Prop) (n : Nat) (hn : t0.size = n) (hB : wellB l n = true) (hR : R w) (hT : ∀ i, i < l.length → T i w)
    (hstep : ∀ i o, l[i]? = some o → OpOk P l F V R T (fun k => t0.getD k undef) i o)
    (hend : ∀ φ a w, Fr n a φ → R w → (∀ t, isDst l t = false → φ t = t0.getD t undef) → (∀ j o d, F j = true → l[j]? = some o → o.dst = some d → V j (φ d) w) → (∀ j o, F j = true → l[j]? = some o → o.dst = none → ∃ u, V j u w) → Q .normal a w) :
    (Code.region id l.toArray false).wp P Q ⟨t0, []⟩ w := by
  refine wp_region_lit (wpList_inv hB hstep hend l 0 (Array.replicate l.length false) _ _ rfl (by simp) (fun j hj => ?_) ⟨_, Fr.lit hn, hR, fun i hi _ => hT i hi, fun j oj hj hl => ?_, fun _ _ => rfl, fun j oj d hj _ hl => ?_, fun j oj hj _ hl => ?_⟩)
  · simp [Array.getD_eq_getD_getElem?, hj]
  · have : j < l.length := (List.getElem?_eq_some_iff.1 hj).1
    simp [Array.getD_eq_getD_getElem?, this] at hl
  · have : j < l.length := (List.getElem?_eq_some_iff.1 hj).1
    simp [Array.getD_eq_getD_getElem?, this] at hl
  · have : j < l.length := (List.getElem?_eq_some_iff.1 hj).1
    simp [Array.getD_eq_getD_getElem?, this] at hl
/-- The rule. -/
theorem wp_region_og {id : Nat} {Q : Exit → Act → World → Prop} {t0 : Array Value} {w : World} (l : List Oper) (F : Nat → Bool) (V : Nat → Value → World → Prop) (R : World → Prop) (T : Nat → World → Prop) (n : Nat) (hn : t0.size = n) (hm : P.follows .mixedOrders = true) (hB : wellB l n = true) (hR : R { w with drawn := w.drawn + 1 }) (hT : ∀ i, i < l.length → T i { w with drawn := w.drawn + 1 })
    (hstep : ∀ i o, l[i]? = some o → OpOk P l F V R T (fun k => t0.getD k undef) i o)
    (hend : ∀ φ a w, Fr n a φ → R w → (∀ t, isDst l t = false → φ t = t0.getD t undef) → (∀ j o d, F j = true → l[j]? = some o → o.dst = some d → V j (φ d) w) → (∀ j o, F j = true → l[j]? = some o → o.dst = none → ∃ u, V j u w) → Q .normal a w) :
    (Code.region id l.toArray true).wp P Q ⟨t0, []⟩ w := by
  refine wp_region_any hm (wpAny_inv hB hstep hend _ _ _ _ (by simp) (fun h i hi => ?_) ?_ ⟨_, Fr.lit hn, hR, fun i hi _ => hT i hi, fun j oj hj hl => ?_, fun _ _ => rfl, fun j oj d hj _ hl => ?_, fun j oj hj _ hl => ?_⟩)
  · simp at h; subst h; simp at hi
  · rw [List.countP_eq_length.2]
    · simp
    · intro j hj
      have : j < l.length := List.mem_range.1 hj
      simp [Array.getD_eq_getD_getElem?, this]
  · have : j < l.length := (List.getElem?_eq_some_iff.1 hj).1
    simp [Array.getD_eq_getD_getElem?, this] at hl
  · have : j < l.length := (List.getElem?_eq_some_iff.1 hj).1
    simp [Array.getD_eq_getD_getElem?, this] at hl
  · have : j < l.length := (List.getElem?_eq_some_iff.1 hj).1
    simp [Array.getD_eq_getD_getElem?, this] at hl
end
/-- What each slot holds: a value (cs), or what a writer tells of it (wr). -/
def Vt (cs : List Value) (wr : List (Nat × (Value → World → Prop))) (j : Nat) : Value → World → Prop := match wr.lookup j with
  | some p => p
  | none => fun u _ => u = cs.getD j undef
def AllOps (Q : Nat → Oper → Prop) : Nat → List Oper → Prop
  | _, [] => True
  | k, o :: r => Q k o ∧ AllOps Q (k + 1) r
theorem allOps_from {Q : Nat → Oper → Prop} : ∀ (l : List Oper) (k : Nat), AllOps Q k l → ∀ i o, l[i]? = some o → Q (k + i) o
  | [], _, _, i, o, h => by simp at h
  | x :: r, k, h, 0, o, hi => by simp only [List.getElem?_cons_zero, Option.some.injEq] at hi; subst hi; exact h.1
  | x :: r, k, h, i + 1, o, hi => by
    have := allOps_from r (k + 1) h.2 i o (by simpa using hi)
    rwa [show k + 1 + i = k + (i + 1) by omega] at this
theorem allOps {Q : Nat → Oper → Prop} {l : List Oper} (h : AllOps Q 0 l) : ∀ i o, l[i]? = some o → Q i o := fun i o hi => by
  have := allOps_from l 0 h i o hi
  rwa [Nat.zero_add] at this
section
variable {P : Program} {l : List Oper} {F : Nat → Bool} {cs : List Value} {wr : List (Nat × (Value → World → Prop))} {R : World → Prop} {T : Nat → World → Prop} {φ0 : Nat → Value} {i : Nat} {o : Oper}
/-- What an operation may lean on. -/
structure At (l : List Oper) (cs : List Value) (wr : List (Nat × (Value → World → Prop))) (R : World → Prop) (T : Nat → World → Prop) (φ0 : Nat → Value) (i : Nat) (o : Oper) (φ : Nat → Value) (w : World) : Prop where
  keep : R w
  tok : T i w
  old : ∀ t, isDst l t = false → φ t = φ0 t
  dep : ∀ e ∈ o.after, isData e = true → ∀ oj d, l[e.on]? = some oj → oj.dst = some d → Vt cs wr e.on (φ d) w
theorem At.of {φ : Nat → Value} {w : World} (h : At l cs wr R T φ0 i o φ w) (j : Nat) {oj : Oper} {d : Nat} (he : (⟨j, .data⟩ : Edge) ∈ o.after) (hj : l[j]? = some oj) (hd : oj.dst = some d) : Vt cs wr j (φ d) w := h.dep ⟨j, .data⟩ he rfl oj d hj hd
/-- An operation that is not under a guard, or whose guard is met. -/
def Wants (l : List Oper) (cs : List Value) (wr : List (Nat × (Value → World → Prop))) (R : World → Prop) (T : Nat → World → Prop) (φ0 : Nat → Value) (i : Nat) (o : Oper) (b : Bool) : Prop := ∀ φ w, At l cs wr R T φ0 i o φ w → wantF l φ o = b
theorem wants_free (hg : o.guard = none) : Wants l cs wr R T φ0 i o true := fun φ w _ => by simp [wantF, Region.wanted, hg]
/-- The guard's value is known. -/
theorem wants_of (j : Nat) (want b : Bool) {oj : Oper} {d : Nat} (hg : o.guard = some (j, want)) (he : (⟨j, .guard⟩ : Edge) ∈ o.after) (hj : l[j]? = some oj) (hd : oj.dst = some d) (hw : wr.lookup j = none) (hc : cs.getD j undef = .bool b) : Wants l cs wr R T φ0 i o (b == want) := fun φ w hA => by
  have h := hA.dep ⟨j, .guard⟩ he rfl oj d hj hd
  unfold Vt at h
  simp only [hw, hc] at h
  simp [wantF, Region.wanted, hg, hj, hd, h]
/-- The guard itself was passed over. -/
theorem wants_off (j : Nat) (want : Bool) {oj : Oper} {d : Nat} (hg : o.guard = some (j, want)) (he : (⟨j, .guard⟩ : Edge) ∈ o.after) (hj : l[j]? = some oj) (hd : oj.dst = some d) (hw : wr.lookup j = none) (hc : cs.getD j undef = undef) : Wants l cs wr R T φ0 i o false := fun φ w hA => by
  have h := hA.dep ⟨j, .guard⟩ he rfl oj d hj hd
  unfold Vt at h
  simp only [hw, hc] at h
  simp [wantF, Region.wanted, hg, hj, hd, h, undef]
theorem ok_pass (hq : Wants l cs wr R T φ0 i o false) (hi : wr.lookup i = none) (hc : cs.getD i undef = undef) : OpOk P l F (Vt cs wr) R T φ0 i o := by
  intro φ w hR hT h0 hd
  refine ⟨fun h => ?_, fun _ => ⟨hR, by unfold Vt; rw [hi]; exact hc.symm, fun _ _ h => h, fun _ _ _ h => h⟩⟩
  rw [hq φ w ⟨hR, hT, h0, hd⟩] at h
  cases h
theorem ok_val_g (c : Value) (hq : Wants l cs wr R T φ0 i o true) (hi : wr.lookup i = none) (hc : cs.getD i undef = c) (h : ∀ φ w, At l cs wr R T φ0 i o φ w → (execOp (ev φ) o).run P w = .ok (.value c) w) : OpOk P l F (Vt cs wr) R T φ0 i o := by
  intro φ w hR hT h0 hd
  refine ⟨fun _ => ?_, fun h' => by rw [hq φ w ⟨hR, hT, h0, hd⟩] at h'; cases h'⟩
  rw [h φ w ⟨hR, hT, h0, hd⟩]
  exact ⟨hR, by unfold Vt; rw [hi]; exact hc.symm, fun _ _ h => h, fun _ _ _ h => h⟩
theorem ok_val (c : Value) (hi : wr.lookup i = none) (hc : cs.getD i undef = c) (h : ∀ φ w, At l cs wr R T φ0 i o φ w → (execOp (ev φ) o).run P w = .ok (.value c) w) (hgd : o.guard = none := by rfl) : OpOk P l F (Vt cs wr) R T φ0 i o := by
  intro φ w hR hT h0 hd
  refine ⟨fun _ => ?_, fun h' => by rw [wants_free hgd φ w ⟨hR, hT, h0, hd⟩] at h'; cases h'⟩
  rw [h φ w ⟨hR, hT, h0, hd⟩]
  exact ⟨hR, by unfold Vt; rw [hi]; exact hc.symm, fun _ _ h => h, fun _ _ _ h => h⟩
/-- What the writers tell outlasts what only grows. -/
def Lasts (wr : List (Nat × (Value → World → Prop))) : Prop := ∀ x ∈ wr, ∀ u w w', x.2 u w → Below w.heap.size w w' → x.2 u w'
theorem vt_of {w w' : World} {S : Nat → Prop} (h : ∀ x ∈ wr, S x.1 → ∀ u, x.2 u w → x.2 u w') (j : Nat) (u : Value) (hS : S j) (hv : Vt cs wr j u w) : Vt cs wr j u w' := by
  unfold Vt at *
  cases hp : wr.lookup j with
  | none => rw [hp] at hv; exact hv
  | some p =>
    rw [hp] at hv
    have hm : (j, p) ∈ wr := by
      clear h hv
      induction wr with
      | nil => simp at hp
      | cons x r ih =>
        obtain ⟨k, q⟩ := x
        rw [List.lookup_cons] at hp
        by_cases e : (j == k) = true
        · rw [e] at hp
          simp only [Option.some.injEq] at hp
          have : j = k := by simpa using e
          subst this hp
          exact List.mem_cons_self ..
        · simp only [Bool.not_eq_true] at e
          rw [e] at hp
          exact List.mem_cons_of_mem _ (ih hp)
    exact h (j, p) hm hS u hv
theorem ok_call (c : Value) (f : FuncId) (args : Array Value) (hW : Lasts wr) (hRb : ∀ w w', R w → Below w.heap.size w w' → R w') (hTb : ∀ j w w', T j w → Below w.heap.size w w' → T j w') (hi : wr.lookup i = none) (hc : cs.getD i undef = c)
    (h : ∀ φ w, At l cs wr R T φ0 i o φ w → (execOp (ev φ) o).run P w = .ok (.enter f args) w ∧ Calls P f args w (fun e w' => e = .returned c ∧ Below w.heap.size w w')) (hgd : o.guard = none := by rfl) : OpOk P l F (Vt cs wr) R T φ0 i o := by
  intro φ w hR hT h0 hd
  refine ⟨fun _ => ?_, fun h' => by rw [wants_free hgd φ w ⟨hR, hT, h0, hd⟩] at h'; cases h'⟩
  obtain ⟨h1, h2⟩ := h φ w ⟨hR, hT, h0, hd⟩
  rw [h1]
  refine h2.mono fun e w' ⟨he, hb⟩ => ⟨c, he, hRb w w' hR hb, by unfold Vt; rw [hi]; exact hc.symm, fun j _ h => hTb j w w' h hb, fun j u _ hv => vt_of (S := fun _ => True) (fun x hx _ u hu => hW x hx u w w' hu hb) j u trivial hv⟩
/-- A call whose arguments hang on what writers yielded. -/
theorem ok_call_at (c : Value) (f : FuncId) (hW : Lasts wr) (hRb : ∀ w w', R w → Below w.heap.size w w' → R w') (hTb : ∀ j w w', T j w → Below w.heap.size w w' → T j w') (hi : wr.lookup i = none) (hc : cs.getD i undef = c)
    (h : ∀ φ w, At l cs wr R T φ0 i o φ w → ∃ args, (execOp (ev φ) o).run P w = .ok (.enter f args) w ∧ Calls P f args w (fun e w' => e = .returned c ∧ Below w.heap.size w w')) (hgd : o.guard = none := by rfl) : OpOk P l F (Vt cs wr) R T φ0 i o := by
  intro φ w hR hT h0 hd
  refine ⟨fun _ => ?_, fun h' => by rw [wants_free hgd φ w ⟨hR, hT, h0, hd⟩] at h'; cases h'⟩
  obtain ⟨args, h1, h2⟩ := h φ w ⟨hR, hT, h0, hd⟩
  rw [h1]
  refine h2.mono fun e w' ⟨he, hb⟩ => ⟨c, he, hRb w w' hR hb, by unfold Vt; rw [hi]; exact hc.symm, fun j _ h => hTb j w w' h hb, fun j u _ hv => vt_of (S := fun _ => True) (fun x hx _ u hu => hW x hx u w w' hu hb) j u trivial hv⟩
theorem ok_wval (p : Value → World → Prop) (hi : wr.lookup i = some p)
    (h : ∀ φ w, At l cs wr R T φ0 i o φ w → ∃ v w', (execOp (ev φ) o).run P w = .ok (.value v) w' ∧ R w' ∧ p v w' ∧ (∀ j, open_ l j i = true → T j w → T j w') ∧ ∀ x ∈ wr, need l F x.1 i = true → ∀ u, x.2 u w → x.2 u w') (hgd : o.guard = none := by rfl) : OpOk P l F (Vt cs wr) R T φ0 i o := by
  intro φ w hR hT h0 hd
  refine ⟨fun _ => ?_, fun h' => by rw [wants_free hgd φ w ⟨hR, hT, h0, hd⟩] at h'; cases h'⟩
  obtain ⟨v, w', h1, h2, h3, h5, h4⟩ := h φ w ⟨hR, hT, h0, hd⟩
  rw [h1]
  exact ⟨h2, by unfold Vt; rw [hi]; exact h3, h5, fun j u hn hv => vt_of (S := fun j => need l F j i = true) (fun x hx hs u hu => h4 x hx hs u hu) j u hn hv⟩
theorem ok_wcall (p : Value → World → Prop) (hi : wr.lookup i = some p)
    (h : ∀ φ w, At l cs wr R T φ0 i o φ w → ∃ f args, (execOp (ev φ) o).run P w = .ok (.enter f args) w ∧ Calls P f args w (fun e w' => ∃ v, e = .returned v ∧ R w' ∧ p v w' ∧ (∀ j, open_ l j i = true → T j w → T j w') ∧ ∀ x ∈ wr, need l F x.1 i = true → ∀ u, x.2 u w → x.2 u w')) (hgd : o.guard = none := by rfl) : OpOk P l F (Vt cs wr) R T φ0 i o := by
  intro φ w hR hT h0 hd
  refine ⟨fun _ => ?_, fun h' => by rw [wants_free hgd φ w ⟨hR, hT, h0, hd⟩] at h'; cases h'⟩
  obtain ⟨f, args, h1, h2⟩ := h φ w ⟨hR, hT, h0, hd⟩
  rw [h1]
  exact h2.mono fun e w' ⟨v, he, h3, h4, h6, h5⟩ => ⟨v, he, h3, by unfold Vt; rw [hi]; exact h4, h6, fun j u hn hv => vt_of (S := fun j => need l F j i = true) (fun x hx hs u hu => h5 x hx hs u hu) j u hn hv⟩
/-- The function is one of the program's. -/
def Enters (P : Program) (f : FuncId) : Prop := ∀ args w, (callFunc f args).run P w = .ok (.enter f args) w
/-- A call of a function value. -/
theorem exec_call {ρ : Operand → Value} {x : Operand} {xs : Array Operand} {ts : Array TypeId} {f : FuncId} (ho : o.op = .call { callee := .value x, args := xs, argTypes := ts }) (hf : Enters P f) (hx : ρ x = .func (.func f) #[] #[]) (w : World) :
    (execOp ρ o).run P w = .ok (.enter f (xs.map ρ)) w := by
  unfold execOp
  rw [ho]
  simp [resolve, invoke, hx, Deferred.ofValue, hf _ _]
theorem ok_call_fn (c : Value) (x : Operand) (xs : Array Operand) (ts : Array TypeId) (hW : Lasts wr) (hRb : ∀ w w', R w → Below w.heap.size w w' → R w') (hTb : ∀ j w w', T j w → Below w.heap.size w w' → T j w') (hi : wr.lookup i = none) (hc : cs.getD i undef = c)
    (ho : o.op = .call { callee := .value x, args := xs, argTypes := ts }) (h : ∀ φ w, At l cs wr R T φ0 i o φ w → ∃ f args, Enters P f ∧ ev φ x = .func (.func f) #[] #[] ∧ xs.map (ev φ) = args ∧ Calls P f args w (fun e w' => e = .returned c ∧ Below w.heap.size w w')) (hgd : o.guard = none := by rfl) : OpOk P l F (Vt cs wr) R T φ0 i o := by
  intro φ w hR hT h0 hd
  refine ⟨fun _ => ?_, fun h' => by rw [wants_free hgd φ w ⟨hR, hT, h0, hd⟩] at h'; cases h'⟩
  obtain ⟨f, args, hf, h1, h2, h3⟩ := h φ w ⟨hR, hT, h0, hd⟩
  rw [exec_call ho hf h1, h2]
  refine h3.mono fun e w' ⟨he, hb⟩ => ⟨c, he, hRb w w' hR hb, by unfold Vt; rw [hi]; exact hc.symm, fun j _ h => hTb j w w' h hb, fun j u _ hv => vt_of (S := fun _ => True) (fun x hx _ u hu => hW x hx u w w' hu hb) j u trivial hv⟩
theorem ok_wcall_fn (p : Value → World → Prop) (x : Operand) (xs : Array Operand) (ts : Array TypeId) (hi : wr.lookup i = some p) (ho : o.op = .call { callee := .value x, args := xs, argTypes := ts })
    (h : ∀ φ w, At l cs wr R T φ0 i o φ w → ∃ f args, Enters P f ∧ ev φ x = .func (.func f) #[] #[] ∧ xs.map (ev φ) = args ∧ Calls P f args w (fun e w' => ∃ v, e = .returned v ∧ R w' ∧ p v w' ∧ (∀ j, open_ l j i = true → T j w → T j w') ∧ ∀ x ∈ wr, need l F x.1 i = true → ∀ u, x.2 u w → x.2 u w')) (hgd : o.guard = none := by rfl) : OpOk P l F (Vt cs wr) R T φ0 i o :=
  ok_wcall p hi (hgd := hgd) fun φ w hA => by
    obtain ⟨f, args, hf, h1, h2, h3⟩ := h φ w hA
    exact ⟨f, args, by rw [exec_call ho hf h1, h2], h3⟩
/-- A call that makes memory of its own and leaves what was there. -/
theorem ok_gcall_fn (p : Value → World → Prop) (x : Operand) (xs : Array Operand) (ts : Array TypeId) (hW : Lasts wr) (hRb : ∀ w w', R w → Below w.heap.size w w' → R w') (hTb : ∀ j w w', T j w → Below w.heap.size w w' → T j w') (hi : wr.lookup i = some p) (ho : o.op = .call { callee := .value x, args := xs, argTypes := ts })
    (h : ∀ φ w, At l cs wr R T φ0 i o φ w → ∃ f args, Enters P f ∧ ev φ x = .func (.func f) #[] #[] ∧ xs.map (ev φ) = args ∧ Calls P f args w (fun e w' => ∃ v, e = .returned v ∧ p v w' ∧ Below w.heap.size w w')) (hgd : o.guard = none := by rfl) : OpOk P l F (Vt cs wr) R T φ0 i o :=
  ok_wcall_fn p x xs ts hi ho (hgd := hgd) fun φ w hA => by
    obtain ⟨f, args, hf, h1, h2, h3⟩ := h φ w hA
    exact ⟨f, args, hf, h1, h2, h3.mono fun e w' ⟨v, he, hp, hb⟩ => ⟨v, he, hRb w w' hA.keep hb, hp, fun j _ h => hTb j w w' h hb, fun x hx _ u hu => hW x hx u w w' hu hb⟩⟩
/-- A writer's value, passed on. -/
theorem ok_wpass (p : Value → World → Prop) (d : Nat) (hi : wr.lookup i = some p) (ho : o.op = .move (.tmp d) ∨ o.op = .assign (.tmp d)) (h : ∀ φ w, At l cs wr R T φ0 i o φ w → p (φ d) w) (hgd : o.guard = none := by rfl) : OpOk P l F (Vt cs wr) R T φ0 i o :=
  ok_wval p hi (hgd := hgd) fun φ w hA => by
    refine ⟨φ d, w, ?_, hA.keep, h φ w hA, fun _ _ h => h, fun _ _ _ _ h => h⟩
    unfold execOp
    rcases ho with ho | ho <;> rw [ho] <;> simp [ev]
/-- append at the operation. -/
theorem exec_append {ρ : Operand → Value} {s x : Operand} {t : TypeId} {w w' : World} {v : Value} (ho : o.op = .call { callee := .builtin .append, args := #[s, x], argTypes := #[t, t] }) (h : (Builtin.append_ #[t, t] o.type #[ρ s, ρ x]).run P w = .ok v w') :
    (execOp ρ o).run P w = .ok (.value v) w' := by
  unfold execOp
  simp only [ho, resolve, invoke, builtin, Sem.run_bind, Sem.run_pure, Result.andThen_ok, List.map_toArray, List.map_cons, List.map_nil, h]
theorem exec_index {ρ : Operand → Value} {x y : Operand} {t : TypeId} {w : World} {v : Value} (ho : o.op = .index t x y) (h : (Instr.index t (ρ x) (ρ y)).run P w = .ok v w) : (execOp ρ o).run P w = .ok (.value v) w := by
  unfold execOp
  simp [ho, h]
theorem exec_field {ρ : Operand → Value} {x : Operand} {t : TypeId} {k : Nat} {w : World} {v : Value} (ho : o.op = .field t x k) (h : (Instr.field t (ρ x) k).run P w = .ok v w) : (execOp ρ o).run P w = .ok (.value v) w := by
  unfold execOp
  simp [ho, h]
/-- A load at the operation. -/
theorem exec_load {ρ : Operand → Value} {x : Operand} {t : TypeId} {w : World} {v : Value} (ho : o.op = .load t x) (h : (Instr.loadAt t (ρ x)).run P w = .ok v w) : (execOp ρ o).run P w = .ok (.value v) w := by
  unfold execOp
  simp [ho, h]
/-- A writer that yields nothing (a store). -/
theorem ok_wskip (p : Value → World → Prop) (hi : wr.lookup i = some p)
    (h : ∀ φ w, At l cs wr R T φ0 i o φ w → ∃ w', (execOp (ev φ) o).run P w = .ok .skip w' ∧ R w' ∧ p undef w' ∧ (∀ j, open_ l j i = true → T j w → T j w') ∧ ∀ x ∈ wr, need l F x.1 i = true → ∀ u, x.2 u w → x.2 u w') (hgd : o.guard = none := by rfl) : OpOk P l F (Vt cs wr) R T φ0 i o := by
  intro φ w hR hT h0 hd
  refine ⟨fun _ => ?_, fun h' => by rw [wants_free hgd φ w ⟨hR, hT, h0, hd⟩] at h'; cases h'⟩
  obtain ⟨w', h1, h2, h3, h5, h4⟩ := h φ w ⟨hR, hT, h0, hd⟩
  rw [h1]
  exact ⟨h2, by unfold Vt; rw [hi]; exact h3, h5, fun j u hn hv => vt_of (S := fun j => need l F j i = true) (fun x hx hs u hu => h4 x hx hs u hu) j u hn hv⟩
end
/-! Plain regions, step by step, the frame a function. -/
section
variable {P : Program} {ops : Array Oper} {rest : List Oper} {o : Oper} {a : Act} {Q : Exit → Act → World → Prop} {n : Nat} {φ : Nat → Value} {w w' : World}
theorem st_start {l : List Oper} {t : Array Value} (hn : t.size = n) (h : ∀ a, Fr n a (fun k => t.getD k undef) → wpList P ops Q l a w) : wpList P ops Q l ⟨t, []⟩ w := h _ (Fr.lit hn)
theorem st_val {d : Nat} (v : Value) (hF : Fr n a φ) (hg : o.guard = none) (hd : o.dst = some d) (hn : d < n) (hr : (execOp (ev φ) o).run P w = .ok (.value v) w') (k : ∀ a', Fr n a' (upd φ d v) → wpList P ops Q rest a' w') : wpList P ops Q (o :: rest) a w := by
  refine wpList_plain hg fun K hK => ?_
  unfold Oper.wp
  rw [hF.eval, hr]
  show K (a.put o.dst v) w'
  rw [hd]
  exact hK _ _ (k _ (hF.put d v hn))
theorem st_same {d : Nat} (v : Value) (hF : Fr n a φ) (hg : o.guard = none) (hd : o.dst = some d) (hn : d < n) (hr : (execOp (ev φ) o).run P w = .ok (.value v) w) (k : ∀ a', Fr n a' (upd φ d v) → wpList P ops Q rest a' w) : wpList P ops Q (o :: rest) a w := st_val v hF hg hd hn hr k
theorem st_skip (hF : Fr n a φ) (hg : o.guard = none) (hd : o.dst = none) (hr : (execOp (ev φ) o).run P w = .ok .skip w') (k : ∀ a', Fr n a' φ → wpList P ops Q rest a' w') : wpList P ops Q (o :: rest) a w := by
  refine wpList_plain hg fun K hK => ?_
  unfold Oper.wp
  rw [hF.eval, hr]
  show K (a.put o.dst undef) w'
  rw [hd]
  exact hK _ _ (k _ hF)
theorem st_call {d : Nat} {f : FuncId} {args : Array Value} (hF : Fr n a φ) (hg : o.guard = none) (hd : o.dst = some d) (hn : d < n) (hr : (execOp (ev φ) o).run P w = .ok (.enter f args) w) (hc : Calls P f args w fun e w' => ∃ v, e = .returned v ∧ ∀ a', Fr n a' (upd φ d v) → wpList P ops Q rest a' w') : wpList P ops Q (o :: rest) a w := by
  refine wpList_plain hg fun K hK => ?_
  unfold Oper.wp
  rw [hF.eval, hr]
  refine Calls.mono hc fun e w' ⟨v, he, h⟩ => ?_
  subst he
  show K (a.put o.dst v) w'
  rw [hd]
  exact hK _ _ (h _ (hF.put d v hn))
end
end Og
end Go.Proofs.YtckbckdaffdjmaaDoor

/- Stores into a block: one cell or a range, by the block's cells. (From the texts of chapter 7.) -/
namespace Go.Proofs.YtckbckdaffdjmaaDoor
open Go.RowKit
set_option maxRecDepth 100000
set_option linter.unusedVariables false
set_option linter.unusedSimpArgs false

/-- The cells with others laid over from a place on. -/
def setAll : List Value → Nat → List Value → List Value
  | cs, _, [] => cs
  | cs, o, v :: r => setAll (cs.set o v) (o + 1) r
theorem setAll_length : ∀ (vs cs : List Value) (o : Nat), (setAll cs o vs).length = cs.length
  | [], _, _ => rfl
  | v :: r, cs, o => by rw [setAll, setAll_length r]; simp
theorem setAll_over : ∀ (vs a old z : List Value), old.length = vs.length → setAll (a ++ (old ++ z)) a.length vs = a ++ (vs ++ z)
  | [], a, old, z, h => by
    have : old = [] := List.eq_nil_of_length_eq_zero h
    subst this; rfl
  | v :: r, a, x :: old, z, h => by
    rw [setAll]
    have e : (a ++ (x :: old ++ z)).set a.length v = (a ++ [v]) ++ (old ++ z) := by simp
    have := setAll_over r (a ++ [v]) old z (by simpa using h)
    rw [List.length_append, List.length_singleton] at this
    rw [e, this]
    simp
section
variable {P : Program} {w : World} {b : Nat} {ty : TypeId}
theorem setCells_heap : ∀ (vs : List Value) (o : Nat) (w : World) (cs : List Value), w.heap[b]? = some (.cells cs.toArray ty (0, 0)) → (w.setCells b o vs).heap[b]? = some (.cells (setAll cs o vs).toArray ty (0, 0))
  | [], _, _, _, h => h
  | v :: r, o, w, cs, h => by
    rw [World.setCells, setAll]
    refine setCells_heap r (o + 1) _ _ ?_
    have hlt := heap_lt h
    have hv : w.heap[b] = .cells cs.toArray ty (0, 0) := (Array.getElem?_eq_some_iff.1 h).2
    unfold World.setCell
    rw [Array.getElem?_eq_getElem (by simpa using hlt), Array.getElem_modify]
    simp [hv]
theorem setCells_grown (w : World) (b o : Nat) (vs : List Value) : w.grownBy (w.setCells b o vs) (some b) := by
  have h := World.keptBut_setCells b (may := fun _ => True) vs o w (fun _ _ => trivial)
  refine ⟨World.os_setCells w b o vs, ?_, World.output_setCells w b o vs, ?_, fun k hk hne => World.heap_setCells_other w b o vs hk (fun e => hne (by rw [e]))⟩
  · clear h
    induction vs generalizing o w with
    | nil => rfl
    | cons v r ih => rw [World.setCells, ih]; rfl
  · clear h
    induction vs generalizing o w with
    | nil => exact Nat.le_refl _
    | cons v r ih =>
      rw [World.setCells]
      refine Nat.le_trans ?_ (ih _ _)
      unfold World.setCell
      simp
theorem run_storeAt_cells (o : Nat) (T : TypeId) (v : Value) (vs cs : List Value) (hv : v.cells = vs.toArray) (hk : w.heap[b]? = some (.cells cs.toArray ty (0, 0))) (hle : o + vs.length ≤ cs.length) (hi : (P.info? T).map (·.size) = some vs.length) (h1 : ∀ u ∈ vs, u.oneCell' = true) :
    (Instr.storeAt T (.pointer (some ⟨b, o, none⟩)) v).run P w = .ok () (w.setCells b o vs) := by
  have hcell : ∀ j, j < vs.length → (w.cell? ⟨b, o + j, none⟩).isSome = true := fun j hj => by
    rw [has_cell hk]; simp; omega
  have hfz : ∀ j, j < vs.length → w.frozen? ⟨b, o + j, none⟩ = false := fun j hj => by simp [World.frozen?, hk]
  have := run_storeCells_cells (P := P) b o vs 0 w (fun j hj => by simpa using hcell j hj) (fun j hj => by simpa using hfz j hj) h1
  cases hq : P.info? T with
  | none => simp [hq] at hi
  | some i =>
    have hs : vs.length = i.size := by simp [hq] at hi; omega
    simp only [Nat.add_zero] at this
    simp [Instr.storeAt, Instr.sureAddr, storeVar, sizeOf, typeInfo, hq, hv, hs, this]
theorem exec_store {ρ : Operand → Value} {op : Oper} {x y : Operand} {T : TypeId} {o : Nat} {vs cs : List Value} (ho : op.op = .store T x y) (hx : ρ x = .pointer (some ⟨b, o, none⟩)) (hv : (ρ y).cells = vs.toArray) (hk : w.heap[b]? = some (.cells cs.toArray ty (0, 0))) (hle : o + vs.length ≤ cs.length) (hi : (P.info? T).map (·.size) = some vs.length) (h1 : ∀ u ∈ vs, u.oneCell' = true) :
    (execOp ρ op).run P w = .ok .skip (w.setCells b o vs) := by
  unfold execOp
  rw [ho]
  simp only [hx]
  have := run_storeAt_cells (P := P) o T (ρ y) vs cs hv hk hle hi h1
  simp [this]
theorem wpList_store_cells {ops : Array Oper} {rest : List Oper} {op : Oper} {a : Act} {Q : Exit → Act → World → Prop} {x y : Operand} {T : TypeId} (b o : Nat) (vs cs : List Value) (hgd : op.guard = none) (ho : op.op = .store T x y) (hx : a.eval x = .pointer (some ⟨b, o, none⟩)) (hv : (a.eval y).cells = vs.toArray) (hk : w.heap[b]? = some (.cells cs.toArray ty (0, 0))) (hle : o + vs.length ≤ cs.length) (hi : (P.info? T).map (·.size) = some vs.length) (h1 : ∀ u ∈ vs, u.oneCell' = true)
    (h : wpList P ops Q rest (a.put op.dst undef) (w.setCells b o vs)) : wpList P ops Q (op :: rest) a w := by
  refine wpList_plain hgd fun K hK => ?_
  unfold Oper.wp
  rw [exec_store ho hx hv hk hle hi h1]
  exact hK _ _ h
end

end Go.Proofs.YtckbckdaffdjmaaDoor

/- Bytes in memory: a slice that reads as a list of bytes (RB); a row of the call's own that holds one (OB); append, slicing. -/
namespace Go.Proofs.YtckbckdaffdjmaaDoor
open Go.RowKit
set_option linter.unusedVariables false
set_option linter.unusedSimpArgs false

/-- A byte as a value. -/
abbrev bv (b : UInt8) : Value := .int .u8 (b.toNat : Int)

theorem bv_of_int (x : Nat) : bv (UInt8.ofNat x) = .int .u8 ((x : Int) % 256) := by
  show Value.int .u8 ((UInt8.ofNat x).toNat : Int) = _
  rw [UInt8.toNat_ofNat']; rfl
/-- v is a slice that reads as l. -/
def RB (w : World) (v : Value) (l : List UInt8) : Prop :=
  ∃ p c, v = .slice p l.length c ∧ l.length ≤ c ∧ c ≤ maxLen ∧ l.length ≤ 140737488355328 ∧
    ∀ i b, l[i]? = some b → ∃ g o, p = some ⟨g, o, none⟩ ∧ g < w.heap.size ∧ w.cell? ⟨g, o + i, none⟩ = some (bv b)
/-- v is a slice of a block of the call's own (from B on) that holds l at its head. -/
def OB (B : Nat) (w : World) (v : Value) (l : List UInt8) : Prop := w.ownsRow B 5 1 v l.length (l.map bv) ∧ l.length ≤ 140737488355328

section
variable {w w' : World} {B : Nat} {v : Value} {l m : List UInt8}
theorem RB.nil_ (w : World) : RB w (.slice none 0 0) [] := ⟨none, 0, rfl, Nat.le_refl _, Nat.zero_le _, Nat.zero_le _, fun i b h => by simp at h⟩
theorem RB.keep (h : RB w v l) (hs : w.heap.size ≤ w'.heap.size) (hk : l ≠ [] → ∀ g o, v.ownBlock = some g → g < w.heap.size → w'.cell? ⟨g, o, none⟩ = w.cell? ⟨g, o, none⟩) : RB w' v l := by
  obtain ⟨p, c, rfl, h1, h2, h3, hr⟩ := h
  refine ⟨p, c, rfl, h1, h2, h3, fun i b hb => ?_⟩
  obtain ⟨g, o, rfl, hg, hc⟩ := hr i b hb
  exact ⟨g, o, rfl, by omega, (hk (by intro e; subst e; simp at hb) g _ rfl hg).trans hc⟩
theorem RB.below (h : RB w v l) (hb : Below w.heap.size w w') : RB w' v l := h.keep hb.size fun _ g o _ hg => (bcell hb).1 g o hg
theorem RB.belowB (h : RB w v l) (hb : Below B w w') (hB : l ≠ [] → ∀ g, v.ownBlock = some g → g < B) : RB w' v l := h.keep hb.size fun hl g o e hg => (bcellB hb).1 g o (hB hl g e)
theorem RB.grown (h : RB w v l) {r : Option Nat} (hg : w.grownBy w' r) (hne : l ≠ [] → ∀ g, v.ownBlock = some g → r ≠ some g) : RB w' v l :=
  h.keep hg.size fun hl g o e hlt => World.cell?_of_block (hg.block g hlt (fun e' => hne hl g e e'.symm))
theorem RB.form (h : RB w v l) : ∃ p c, v = .slice p l.length c := by obtain ⟨p, c, e, _⟩ := h; exact ⟨p, c, e⟩
theorem RB.len (h : RB w v l) : l.length ≤ 140737488355328 := by obtain ⟨p, c, rfl, _, _, h3, _⟩ := h; exact h3
theorem RB.block (h : RB w v l) (hl : l ≠ []) : ∀ g, v.ownBlock = some g → g < w.heap.size := by
  obtain ⟨p, c, rfl, h1, h2, h3, hr⟩ := h
  intro g hg
  obtain ⟨b, r, rfl⟩ : ∃ b r, l = b :: r := by cases l with | nil => exact absurd rfl hl | cons b r => exact ⟨b, r, rfl⟩
  obtain ⟨g', o, rfl, hlt, _⟩ := hr 0 b rfl
  simp only [Value.ownBlock, Option.some.injEq] at hg
  omega

theorem OB.nil_ (B : Nat) (w : World) : OB B w (.slice none 0 0) [] := ⟨World.ownsRow_nil w B 5 1, Nat.zero_le _⟩
theorem OB.lt (h : OB B w v l) : ∀ k, v.ownBlock = some k → B ≤ k ∧ k < w.heap.size := h.1.lt
theorem OB.kept (h : OB B w v l) {r : Option Nat} (hg : w.grownBy w' r) (hne : ∀ g, v.ownBlock = some g → r ≠ some g) : OB B w' v l := by
  refine ⟨h.1.kept hg ?_, h.2⟩
  cases e : v.ownBlock with
  | none => exact .inl rfl
  | some g => exact .inr fun e' => hne g e e'.symm
theorem below_grown {r : Option Nat} (hb : Below w.heap.size w w') : w.grownBy w' r := ⟨hb.os, hb.tape, hb.output, hb.size, fun k hk _ => hb.block k hk⟩
theorem OB.below (h : OB B w v l) (hb : Below w.heap.size w w') : OB B w' v l := h.kept (r := none) (below_grown hb) (fun g _ e => by cases e)
theorem OB.more (h : OB B w v l) {B' : Nat} (hB : B' ≤ B) : OB B' w v l := by
  obtain ⟨⟨h0, h1 | ⟨g, cap, cur, rfl, hb, hg, r⟩⟩, hl⟩ := h
  · exact ⟨⟨h0, .inl h1⟩, hl⟩
  · exact ⟨⟨h0, .inr ⟨g, cap, cur, rfl, by omega, hg, r⟩⟩, hl⟩
theorem OB.rb (h : OB B w v l) : RB w v l := by
  obtain ⟨⟨h0, ⟨rfl, hn⟩ | ⟨g, cap, cur, rfl, hB, hg, hn, hc, hs, ht⟩⟩, hl⟩ := h
  · have : l = [] := List.eq_nil_of_length_eq_zero hn
    subst this
    exact RB.nil_ w
  · refine ⟨_, cap, rfl, hn, hc, hl, fun i b hb => ⟨g, 0, rfl, heap_lt hg, ?_⟩⟩
    have hi : i < l.length := (List.getElem?_eq_some_iff.1 hb).1
    have h1 : (cur.toList.take (l.length * 1))[i]? = some (bv b) := by rw [ht]; simp [hb]
    rw [List.getElem?_take, if_pos (by omega)] at h1
    simp only [World.cell?, hg]
    simpa using h1
theorem OB.form (h : OB B w v l) (hl : l ≠ []) : ∃ g cap, v = .slice (some ⟨g, 0, none⟩) l.length cap ∧ B ≤ g ∧ g < w.heap.size ∧ l.length ≤ cap ∧ cap ≤ maxLen ∧
    (∀ i b, l[i]? = some b → w.cell? ⟨g, i, none⟩ = some (bv b)) ∧ ∀ i, w.frozen? ⟨g, i, none⟩ = false := by
  have hr := h.rb
  obtain ⟨⟨h0, ⟨rfl, hn⟩ | ⟨g, cap, cur, rfl, hB, hg, hn, hc, hs, ht⟩⟩, hm⟩ := h
  · exact absurd (List.eq_nil_of_length_eq_zero hn) hl
  · refine ⟨g, cap, rfl, hB, heap_lt hg, hn, hc, fun i b hb => ?_, fun i => by simp [World.frozen?, hg]⟩
    obtain ⟨p, c, e, _, _, _, hcell⟩ := hr
    obtain ⟨g', o, e1, _, hx⟩ := hcell i b hb
    injection e with e2
    subst e2
    injection e1 with e1
    injection e1 with e3 e4
    subst e3 e4
    simpa using hx
/-- A part of it. -/
theorem RB.sub {g o c : Nat} (h : RB w (.slice (some ⟨g, o, none⟩) l.length c) l) (lo n c' : Nat) (hn : lo + n ≤ l.length) (hc : n ≤ c') (hm : c' ≤ maxLen) :
    RB w (.slice (some ⟨g, o + lo, none⟩) n c') ((l.drop lo).take n) := by
  obtain ⟨p, c1, e, h1, h2, h3, hr⟩ := h
  simp only [Value.slice.injEq] at e
  obtain ⟨e1, _, _⟩ := e
  subst e1
  have hl : ((l.drop lo).take n).length = n := by rw [List.length_take, List.length_drop]; omega
  refine ⟨_, c', by rw [hl], by rw [hl]; exact hc, hm, by rw [hl]; omega, fun i b hb => ?_⟩
  have hi : i < n := by have := (List.getElem?_eq_some_iff.1 hb).1; omega
  rw [List.getElem?_take, if_pos hi, List.getElem?_drop] at hb
  obtain ⟨g', o', e, hg, hcell⟩ := hr _ b hb
  simp only [Option.some.injEq, Addr.mk.injEq, and_true] at e
  obtain ⟨rfl, rfl⟩ := e
  exact ⟨g, o + lo, rfl, hg, by rw [Nat.add_assoc]; exact hcell⟩
theorem RB.front {g o c : Nat} (h : RB w (.slice (some ⟨g, o, none⟩) l.length c) l) (n c' : Nat) (hn : n ≤ l.length) (hc : n ≤ c') (hm : c' ≤ maxLen) :
    RB w (.slice (some ⟨g, o, none⟩) n c') (l.take n) := by
  have := h.sub 0 n c' (by omega) hc hm
  simpa using this
theorem RB.back {g o c : Nat} (h : RB w (.slice (some ⟨g, o, none⟩) l.length c) l) (lo c' : Nat) (hn : lo ≤ l.length) (hc : l.length - lo ≤ c') (hm : c' ≤ maxLen) :
    RB w (.slice (some ⟨g, o + lo, none⟩) (l.length - lo) c') (l.drop lo) := by
  have := h.sub lo (l.length - lo) c' (by omega) hc hm
  rwa [List.take_of_length_le (by rw [List.length_drop]; exact Nat.le_refl _)] at this
theorem cell_of_rb {g o n c : Nat} (h : RB w (.slice (some ⟨g, o, none⟩) n c) l) (i : Nat) (b : UInt8) (hb : l[i]? = some b) : w.cell? ⟨g, o + i, none⟩ = some (bv b) := by
  obtain ⟨p1, c1, e, h1, h2, h3, hr⟩ := h
  simp only [Value.slice.injEq] at e
  obtain ⟨e1, _, _⟩ := e
  subst e1
  obtain ⟨g', o', e, _, hc⟩ := hr i b hb
  simp only [Option.some.injEq, Addr.mk.injEq, and_true] at e
  obtain ⟨rfl, rfl⟩ := e
  exact hc
theorem RB.empty (w : World) (p : Option Addr) (c : Nat) (hm : c ≤ maxLen) : RB w (.slice p 0 c) [] := ⟨p, c, rfl, Nat.zero_le _, hm, Nat.zero_le _, fun i b h => by simp at h⟩
theorem RB.addr {p : Option Addr} {n c : Nat} (h : RB w (.slice p n c) l) (hl : l ≠ []) : ∃ g o, p = some ⟨g, o, none⟩ ∧ g < w.heap.size ∧ n = l.length ∧ n ≤ c ∧ c ≤ maxLen := by
  obtain ⟨p1, c1, e, h1, h2, h3, hr⟩ := h
  simp only [Value.slice.injEq] at e
  obtain ⟨rfl, rfl, rfl⟩ := e
  obtain ⟨b, r, rfl⟩ : ∃ b r, l = b :: r := by cases l with | nil => exact absurd rfl hl | cons b r => exact ⟨b, r, rfl⟩
  obtain ⟨g, o, rfl, hg, _⟩ := hr 0 b rfl
  exact ⟨g, o, rfl, hg, rfl, h1, h2⟩
/-- A block that was just laid. -/
theorem OB.new (w : World) (cs : Array Value) (l : List UInt8) (hc : cs = (l.map bv).toArray) (hl : l.length ≤ 140737488355328) (hB : B ≤ w.heap.size) :
    OB B (w.alloc (.cells cs 5)) (.slice (some ⟨w.heap.size, 0, none⟩) l.length l.length) l := by
  subst hc
  refine ⟨?_, hl⟩
  have := World.ownsRow_lit (e := 5) (size := 1) (base := B) w (l.map bv).toArray l.length hB (by simp only [maxLen]; omega) (by simp)
  simpa using this
theorem RB.wb (h : RB w v l) {b : Nat} (hne : l ≠ [] → v.ownBlock ≠ some b) (c : Array Value) (t : TypeId) : RB (w.wb b c t) v l :=
  h.keep (by simp) fun hl g o e _ => World.cell?_of_block (heap_wb_ne (fun e' => hne hl (by rw [e, e'])))
theorem OB.wb (h : OB B w v l) {b : Nat} (hne : v.ownBlock ≠ some b) (c : Array Value) (t : TypeId) : OB B (w.wb b c t) v l := by
  obtain ⟨⟨h0, h1 | ⟨g, cap, cur, rfl, hB, hg, r⟩⟩, hl⟩ := h
  · exact ⟨⟨h0, .inl h1⟩, hl⟩
  · exact ⟨⟨h0, .inr ⟨g, cap, cur, rfl, hB, (heap_wb_ne (fun e' => hne (by rw [e']; rfl))).trans hg, r⟩⟩, hl⟩
theorem OB.at_ (h : OB B w v l) (he : ∀ g, v.ownBlock = some g → w'.heap[g]? = w.heap[g]?) : OB B w' v l := by
  obtain ⟨⟨h0, h1 | ⟨g, cap, cur, rfl, hB, hg, r⟩⟩, hl⟩ := h
  · exact ⟨⟨h0, .inl h1⟩, hl⟩
  · exact ⟨⟨h0, .inr ⟨g, cap, cur, rfl, hB, (he g rfl).trans hg, r⟩⟩, hl⟩
theorem RB.lit (w : World) (cs : Array Value) (l : List UInt8) (n : Nat) (hc : cs = (l.map bv).toArray) (hn : n = l.length) (hl : l.length ≤ 140737488355328) :
    RB (w.alloc (.cells cs 5)) (.slice (some ⟨w.heap.size, 0, none⟩) n n) l := by
  subst hn
  exact (OB.new w cs l hc hl (Nat.le_refl _)).rb
end

theorem by_ti : (Tryd.prog.info? 5).map (fun i => (i.zero, i.size, i.bytes)) = some (some (.int .u8 0), 1, 1) := by kernel_rfl
theorem by_tu : Tryd.prog.underlying 74 = some (.slice 5) := by kernel_rfl
theorem by_info : ∃ i, Tryd.prog.info? 5 = some i ∧ i.zero = some (.int .u8 0) ∧ i.size = 1 ∧ i.bytes = 1 := by
  have h := by_ti
  cases hi : Tryd.prog.info? 5 with
  | none => rw [hi] at h; cases h
  | some i =>
    rw [hi] at h
    simp only [Option.map_some, Option.some.injEq, Prod.mk.injEq] at h
    exact ⟨i, rfl, h⟩

@[go_sem] theorem eql_bytes_nil (w : World) (a : Option Addr) (n c : Nat) : (binOp .eql 74 (.slice a n c) (.slice none 0 0)).run Tryd.prog w = .ok (.bool a.isNone) w := Lib.run_eql_slice_nil w _ _ a n c 0 0 by_tu

set_option maxRecDepth 100000 in
theorem run_append_nothing (w : World) {B : Nat} {v : Value} {l : List UInt8} (h : OB B w v l) (p : Option Addr) (c : Nat) :
    (Builtin.append_ #[74, 74] 74 #[v, .slice p 0 c]).run Tryd.prog w = .ok v w := by
  obtain ⟨i, hi, hz⟩ := by_info
  obtain ⟨⟨h0, ⟨rfl, hn⟩ | ⟨g, cap, cur, rfl, hB, hg, hn, hc, hs, ht⟩⟩, hl⟩ := h
  · cases p <;> simp [Builtin.append_, run_underlying by_tu, sizeOf, typeInfo, hi, Builtin.lenOf, Builtin.firstCells, loadCells, loadCellsFrom]
  · cases p <;> simp [Builtin.append_, run_underlying by_tu, sizeOf, typeInfo, hi, Builtin.lenOf, Builtin.firstCells, loadCells, loadCellsFrom, hn, storeCells]

set_option maxRecDepth 100000 in
/-- append to a row of the call's own. -/
theorem run_append_OB {w : World} {B : Nat} {v x : Value} {l m : List UInt8} (h : OB B w v l) (hr : RB w x m) (hlen : l.length + m.length ≤ 140737488355328) (hB : B ≤ w.heap.size) :
    ∃ v' w', (Builtin.append_ #[74, 74] 74 #[v, x]).run Tryd.prog w = .ok v' w' ∧ OB B w' v' (l ++ m) ∧ w.grownBy w' v.ownBlock ∧ (v'.ownBlock = v.ownBlock ∨ v'.ownBlock = some w.heap.size) := by
  obtain ⟨i, hi, hz⟩ := by_info
  obtain ⟨p, c, rfl, h1, h2, h3, hc⟩ := hr
  by_cases hm : m = []
  · subst hm
    exact ⟨v, w, run_append_nothing w h p c, by simpa using h, World.grownBy.refl w _, .inl rfl⟩
  · obtain ⟨b, r, rfl⟩ : ∃ b r, m = b :: r := by cases m with | nil => exact absurd rfl hm | cons b r => exact ⟨b, r, rfl⟩
    obtain ⟨g, o, rfl, hg, _⟩ := hc 0 b rfl
    obtain ⟨v', w', hrun, ho, hgr, _, hat⟩ := run_append_own_at (P := Tryd.prog) w B 74 74 5 i (.int .u8 0) 1 1 by_tu hi hz.1 hz.2.1 hz.2.2 rfl (by decide) v l.length (l.map bv) h.1 ⟨g, o, none⟩ (b :: r).length c ((b :: r).map bv) (by simp)
      (fun j u hj => by
        rw [List.getElem?_map] at hj
        cases hb : (b :: r)[j]? with
        | none => rw [hb] at hj; cases hj
        | some b' =>
          rw [hb] at hj
          cases hj
          obtain ⟨g', o', e, _, hcell⟩ := hc j b' hb
          injection e with e
          injection e with e1 e2
          subst e1 e2
          rw [add_flat]
          exact hcell)
      (fun u hu => by
        obtain ⟨b', _, rfl⟩ := List.mem_map.1 hu
        rfl) (by simp only [maxLen]; omega) (by omega) hB
    refine ⟨v', w', hrun, ⟨?_, by simpa using hlen⟩, hgr, hat⟩
    rw [List.length_append, List.map_append]
    exact ho

set_option maxRecDepth 100000 in
/-- append at the operation. -/
theorem wpList_append_OB {w : World} {ops : Array Oper} {rest : List Oper} {o : Oper} {a : Act} {Q : Exit → Act → World → Prop} (hgd : o.guard = none) (s x : Operand)
    (ho : o.op = .call { callee := .builtin .append, args := #[s, x], argTypes := #[74, 74] }) (hty : o.type = 74) {B : Nat} {v xv : Value} {l m : List UInt8}
    (hs : a.eval s = v) (hx : a.eval x = xv) (h : OB B w v l) (hr : RB w xv m) (hlen : l.length + m.length ≤ 140737488355328) (hB : B ≤ w.heap.size)
    (hk : ∀ v' w', OB B w' v' (l ++ m) → w.grownBy w' v.ownBlock → (v'.ownBlock = v.ownBlock ∨ v'.ownBlock = some w.heap.size) → wpList Tryd.prog ops Q rest (a.put o.dst v') w') : wpList Tryd.prog ops Q (o :: rest) a w := by
  refine wpList_plain hgd fun K hK => ?_
  obtain ⟨v', w', hrun, h2, h3, h4⟩ := run_append_OB h hr hlen hB
  unfold Oper.wp execOp
  simp only [ho, hty, resolve, invoke, builtin, Sem.run_bind, Sem.run_pure, Result.andThen_ok, List.map_toArray, List.map_cons, List.map_nil, hs, hx, hrun]
  exact hK _ _ (hk v' w' h2 h3 h4)
end Go.Proofs.YtckbckdaffdjmaaDoor

/- The cells of an argument, leaf by leaf, with the bound of what its slices weigh; slices of bytes among them. -/
namespace Go.Proofs.YtckbckdaffdjmaaDoor
open Go.ChangeShapes Go.WideShapes Go.ChangeAt Go.RowKit
set_option maxRecDepth 100000
set_option linter.unusedVariables false
set_option linter.unusedSimpArgs false

section
variable {H : Type} {enc : TypeId × Value → H} {P : Program} {w : World} {base : Nat} {spare : Nat → Bool} {held : Bool} {R : Nat}

/-- A cell is what its leaf says; its slices weigh at most R. -/
def LeafW (enc : TypeId × Value → H) (P : Program) (w : World) (base : Nat) (spare : Nat → Bool) (held : Bool) (R : Nat) : Leaf → Value → Prop
  | .int k, v => ∃ n, v = .int k n ∧ (Lit.int k n).wf = true
  | .bool, v => ∃ b, v = .bool b
  | .str, v => ∃ s, v = .string s ∧ s.size ≤ maxLen
  | .other t, v => ∃ fuel x, DataW.trod enc P w base spare held fuel t [v] = some x ∧ ∀ n ∈ x.1.weights P t, n ≤ R

inductive LeavesW (enc : TypeId × Value → H) (P : Program) (w : World) (base : Nat) (spare : Nat → Bool) (held : Bool) (R : Nat) : List Leaf → List Value → Prop
  | nil : LeavesW enc P w base spare held R [] []
  | cons {l : Leaf} {v : Value} {ls : List Leaf} {vs : List Value} : LeafW enc P w base spare held R l v → LeavesW enc P w base spare held R ls vs → LeavesW enc P w base spare held R (l :: ls) (v :: vs)

theorem LeavesW.append {a b : List Leaf} {u v : List Value} (h : LeavesW enc P w base spare held R a u) (k : LeavesW enc P w base spare held R b v) : LeavesW enc P w base spare held R (a ++ b) (u ++ v) := by
  induction h with
  | nil => exact k
  | cons h1 _ ih => exact .cons h1 ih
theorem LeavesW.uncons {l : Leaf} {ls : List Leaf} {cs : List Value} (h : LeavesW enc P w base spare held R (l :: ls) cs) : ∃ v vs, cs = v :: vs ∧ LeafW enc P w base spare held R l v ∧ LeavesW enc P w base spare held R ls vs := by
  cases h with
  | cons a b => exact ⟨_, _, rfl, a, b⟩
theorem LeavesW.unnil {cs : List Value} (h : LeavesW enc P w base spare held R [] cs) : cs = [] := by cases h; rfl
theorem LeavesW.int {k : IntKind} {ls : List Leaf} {cs : List Value} (h : LeavesW enc P w base spare held R (.int k :: ls) cs) : ∃ n vs, cs = .int k n :: vs ∧ (Lit.int k n).wf = true ∧ LeavesW enc P w base spare held R ls vs := by
  obtain ⟨v, vs, rfl, ⟨n, rfl, hn⟩, r⟩ := h.uncons
  exact ⟨n, vs, rfl, hn, r⟩
theorem LeavesW.bool {ls : List Leaf} {cs : List Value} (h : LeavesW enc P w base spare held R (.bool :: ls) cs) : ∃ b vs, cs = .bool b :: vs ∧ LeavesW enc P w base spare held R ls vs := by
  obtain ⟨v, vs, rfl, ⟨n, rfl⟩, r⟩ := h.uncons
  exact ⟨n, vs, rfl, r⟩
theorem LeavesW.other {t : TypeId} {ls : List Leaf} {cs : List Value} (h : LeavesW enc P w base spare held R (.other t :: ls) cs) : ∃ v vs, cs = v :: vs ∧ (∃ fuel x, DataW.trod enc P w base spare held fuel t [v] = some x ∧ ∀ n ∈ x.1.weights P t, n ≤ R) ∧ LeavesW enc P w base spare held R ls vs := by
  obtain ⟨v, vs, rfl, hv, r⟩ := h.uncons
  exact ⟨v, vs, rfl, hv, r⟩

theorem weights_mem_all {e : TypeId} : ∀ {ds : List (DataW H)} {j : Nat} {d : DataW H}, ds[j]? = some d → ∀ n ∈ d.weights P e, n ∈ DataW.weightsAll P e ds
  | d0 :: ds, 0, d, hd, n, hn => by
    simp only [List.getElem?_cons_zero, Option.some.injEq] at hd
    subst hd
    simp only [DataW.weightsAll, List.mem_append]
    exact Or.inl hn
  | d0 :: ds, j + 1, d, hd, n, hn => by
    simp only [List.getElem?_cons_succ] at hd
    simp only [DataW.weightsAll, List.mem_append]
    exact Or.inr (weights_mem_all hd n hn)
  | [], _, _, hd, _, _ => by simp at hd

mutual
theorem leaves_okW : ∀ (n : Nat) (t : TypeId) (ls : List Leaf) (fuel : Nat) (cs : List Value) (x : DataW H × List MemPlace), leaves P n t = some ls →
    DataW.trod enc P w base spare held fuel t cs = some x → (∀ n ∈ x.1.weights P t, n ≤ R) → LeavesW enc P w base spare held R ls cs
  | 0, _, _, _, _, _, h, _, _ => by simp [leaves] at h
  | n + 1, t, ls, fuel, cs, x, h, ht, hw => by
    unfold leaves at h
    split at h
    · rename_i hu
      cases h
      obtain ⟨b, rfl, _⟩ := DataW.trod_bool hu ht
      exact .cons ⟨b, rfl⟩ .nil
    · rename_i k hu
      cases h
      obtain ⟨m, rfl, _, hwf⟩ := DataW.trod_int hu ht
      exact .cons ⟨m, rfl, hwf⟩ .nil
    · rename_i hu
      cases h
      obtain ⟨s, rfl, _, hwf⟩ := DataW.trod_string hu ht
      exact .cons ⟨s, rfl, hwf⟩ .nil
    · rename_i fs hu
      split at h
      · rename_i hc
        simp only [Bool.and_eq_true, beq_iff_eq] at hc
        obtain ⟨xs, m, rfl, rfl, hl, hxl, hf⟩ := DataW.trod_struct hu ht
        refine leavesAll_okW n fs.toList ls m cs 0 h hc.1 ?_ ?_
        · rw [Nat.zero_add, hc.2]; exact hl
        · intro i f hif
          have hi : fs[i]? = some f := by simpa using hif
          have hlt : i < xs.length := by
            have := (Array.getElem?_eq_some_iff.1 hi).1
            omega
          refine ⟨xs[i], by rw [hf i f hi]; exact List.getElem?_eq_getElem hlt, fun q hq => hw q ?_⟩
          simp only [DataW.weights, hu]
          exact DataW.weights_mem_each (j := i) (t := f.type) (d := xs[i].1) (by rw [List.getElem?_map, hif]; rfl) (by rw [List.getElem?_map, List.getElem?_eq_getElem hlt]; rfl) q hq
      · cases h
    · rename_i m e hu
      split at h
      · rename_i hc
        simp only [beq_iff_eq] at hc
        cases hle : leaves P n e with
        | none => rw [hle] at h; cases h
        | some l =>
          rw [hle] at h
          simp only [Option.map_some, Option.some.injEq] at h
          subst h
          obtain ⟨xs, fu, rfl, hx1, hlen, hn3, hel⟩ := DataW.trod_array hu ht
          have key : ∀ k, k ≤ m → LeavesW enc P w base spare held R (List.replicate k l).flatten (cs.take (k * P.cellsOf e)) := by
            intro k
            induction k with
            | zero => intro _; simp; exact .nil
            | succ k ih =>
              intro hk
              have h1 := ih (by omega)
              have hk' : k < xs.length := by omega
              have h2 := hel k (by omega)
              rw [List.getElem?_eq_getElem hk'] at h2
              have h3 := leaves_okW n e l fu _ _ hle h2 (fun q hq => hw q (by
                rw [hx1]
                simp only [DataW.weights, hu]
                exact weights_mem_all (j := k) (d := xs[k].1) (by rw [List.getElem?_map, List.getElem?_eq_getElem hk']; rfl) q hq))
              have e1 : (List.replicate (k + 1) l).flatten = (List.replicate k l).flatten ++ l := by
                rw [List.replicate_succ', List.flatten_append]; simp
              have e2 : cs.take ((k + 1) * P.cellsOf e) = cs.take (k * P.cellsOf e) ++ (cs.drop (k * P.cellsOf e)).take (P.cellsOf e) := by
                rw [Nat.succ_mul, List.take_add]
              rw [e1, e2]
              exact h1.append h3
          have hm := key m (Nat.le_refl _)
          rw [hc, ← hlen, List.take_length] at hm
          exact hm
      · cases h
    · rename_i e hu
      cases h
      rcases trod_length ht with ⟨v, rfl⟩ | ⟨fs, h2⟩ | ⟨m, e', h2⟩
      · exact .cons ⟨fuel, x, ht, hw⟩ .nil
      · rw [hu] at h2; cases h2
      · rw [hu] at h2; cases h2
    · rename_i e hu
      cases h
      rcases trod_length ht with ⟨v, rfl⟩ | ⟨fs, h2⟩ | ⟨m, e', h2⟩
      · exact .cons ⟨fuel, x, ht, hw⟩ .nil
      · rw [hu] at h2; cases h2
      · rw [hu] at h2; cases h2
    · cases h
theorem leavesAll_okW : ∀ (n : Nat) (fs : List Field) (ls : List Leaf) (fuel : Nat) (cs : List Value) (at_ : Nat), leavesAll P n fs = some ls → fieldsLie P fs at_ = true → cs.length = at_ + fieldsSum P fs →
    (∀ (i : Nat) (f : Field), fs[i]? = some f → ∃ x, DataW.trod enc P w base spare held fuel f.type ((cs.drop f.offset).take (P.cellsOf f.type)) = some x ∧ ∀ n ∈ x.1.weights P f.type, n ≤ R) → LeavesW enc P w base spare held R ls (cs.drop at_)
  | 0, _, _, _, _, _, h, _, _, _ => by simp [leavesAll] at h
  | n + 1, [], ls, fuel, cs, at_, h, _, hs, _ => by
    simp only [leavesAll, Option.some.injEq] at h
    subst h
    rw [List.drop_of_length_le (by simp [fieldsSum] at hs; omega)]
    exact .nil
  | n + 1, f :: r, ls, fuel, cs, at_, h, hlie, hs, hf => by
    simp only [leavesAll] at h
    split at h
    · rename_i a b ha hb
      cases h
      simp only [fieldsLie, Bool.and_eq_true, beq_iff_eq] at hlie
      obtain ⟨x, hx, hwx⟩ := hf 0 f rfl
      rw [hlie.1] at hx
      have h1 := leaves_okW n f.type a fuel _ x ha hx hwx
      have h2 := leavesAll_okW n r b fuel cs (at_ + P.cellsOf f.type) hb hlie.2 (by simp [fieldsSum] at hs; omega) (fun i g hg => hf (i + 1) g (by simpa using hg))
      have e : cs.drop at_ = (cs.drop at_).take (P.cellsOf f.type) ++ cs.drop (at_ + P.cellsOf f.type) := by
        rw [← List.drop_drop, List.take_append_drop]
      rw [e]
      exact h1.append h2
    · cases h
end

/-- An argument that is a struct or an array: its cells, leaf by leaf. -/
theorem open_leavesW {W : World} {b : Nat} {t : TypeId} {v : Value} {d : DataW H} {ps : List MemPlace} {ls : List Leaf} {n : Nat} (hls : leaves P n t = some ls)
    (hst : (match P.underlying t with | some (.struct _) | some (.array _ _) => true | _ => false) = true)
    (hv : Value.okWide P W .any b t v) (h : DataW.Trod enc P W base spare held t v d ps) (hw : ∀ n ∈ d.weights P t, n ≤ R) : ∃ cs, v = .agg cs.toArray ∧ LeavesW enc P W base spare held R ls cs := by
  obtain ⟨fuel, hf⟩ := h
  unfold Value.okWide at hv
  split at hst
  · rename_i fs hu
    rw [hu] at hv
    obtain ⟨cs, rfl, _, _⟩ := hv
    exact ⟨cs.toList, by simp, leaves_okW n t ls fuel _ _ hls hf hw⟩
  · rename_i m e hu
    rw [hu] at hv
    obtain ⟨cs, rfl, _, _⟩ := hv
    exact ⟨cs.toList, by simp, leaves_okW n t ls fuel _ _ hls hf hw⟩
  · cases hst
end

theorem by_u8 : Tryd.prog.underlying 5 = some (.int .u8) := by kernel_rfl
theorem by_c1 : Tryd.prog.cellsOf 5 = 1 := by kernel_rfl
theorem by_b1 : Tryd.prog.bytesOf 5 = 1 := by kernel_rfl

theorem u8_of_wf {n : Int} (h : (Lit.int .u8 n).wf = true) : ∃ b : UInt8, Value.int .u8 n = bv b := by
  have h2 : IntKind.u8.min ≤ n ∧ n ≤ IntKind.u8.max := by simpa [Lit.wf] using h
  have hm : IntKind.u8.min = 0 := by decide
  have hM : IntKind.u8.max = 255 := by decide
  refine ⟨UInt8.ofNat n.toNat, ?_⟩
  rw [bv_of_int]
  rw [hm, hM] at h2
  have : ((n.toNat : Nat) : Int) = n := Int.toNat_of_nonneg h2.1
  rw [this, show n % 256 = n by omega]

section
variable {H : Type} {enc : TypeId × Value → H} {W : World} {base : Nat} {spare : Nat → Bool} {held : Bool} {R : Nat}
/-- A slice of bytes that came in reads as a list. -/
theorem rb_of_trod {fuel : Nat} {v : Value} {x : DataW H × List MemPlace} (h : DataW.trod enc Tryd.prog W base spare held fuel 74 [v] = some x) (hw : ∀ n ∈ x.1.weights Tryd.prog 74, n ≤ reachBytes) :
    ∃ l, RB W v l ∧ (∀ g, v.ownBlock = some g → g < W.heap.size ∨ l = []) ∧ l.length ≤ 140737488351232 := by
  rcases Go.Deep.open_slice1 by_tu by_c1 h with ⟨hcs, rfl⟩ | ⟨a, len, cap, m, n, V, D, Pl, hcs, hb, hl, hm, hmm, rfl, hx⟩
  · cases hcs
    exact ⟨[], RB.nil_ W, fun g hg => .inr rfl, by simp⟩
  · simp only [List.cons.injEq, and_true] at hcs
    subst hcs
    have hlm : len ≤ m := by rw [hmm]; split <;> omega
    have hlen : len ≤ 140737488351232 := by
      have := hw ((len + (m - len)) * Tryd.prog.bytesOf 5) (by simp [DataW.weights, by_tu])
      rw [by_b1] at this
      simp only [reachBytes] at this
      omega
    have hB : ∀ i, i < len → ∃ b : UInt8, V i = bv b := fun i hi => by
      obtain ⟨_, ht⟩ := hx i (by omega)
      obtain ⟨k, e, _, hwf⟩ := DataW.trod_int by_u8 ht
      simp only [List.cons.injEq, and_true] at e
      obtain ⟨b, hb⟩ := u8_of_wf hwf
      exact ⟨b, e.trans hb⟩
    obtain ⟨bs, hbs⟩ := Go.Deep.choose_lt (α := UInt8) (p := fun i b => V i = bv b) hB
    have hll : ((List.range len).map bs).length = len := by simp
    have hcellb : ∀ i b, ((List.range len).map bs)[i]? = some b → ∃ g o, some a = some (⟨g, o, none⟩ : Addr) ∧ g < W.heap.size ∧ W.cell? ⟨g, o + i, none⟩ = some (bv b) := fun i b hi => by
      have hil : i < len := by have := (List.getElem?_eq_some_iff.1 hi).1; simpa using this
      have hbi : bs i = b := by
        rw [List.getElem?_map, List.getElem?_range hil] at hi
        simpa using hi
      obtain ⟨hc, _⟩ := hx i (by omega)
      have hsp := World.cell?_spot (hx 0 (by omega)).1
      obtain ⟨g, off, spot⟩ := a
      have hspot : spot = none := by simpa [Addr.add] using hsp
      subst hspot
      rw [add_flat] at hc
      refine ⟨g, off, rfl, cell_lt hc, ?_⟩
      rw [hc, hbs i hil, hbi]
    refine ⟨(List.range len).map bs, ⟨some a, cap, by rw [hll], by rw [hll]; exact hl, hm, by rw [hll]; omega, hcellb⟩, fun g hg => ?_, by rw [hll]; exact hlen⟩
    by_cases h0 : len = 0
    · exact .inr (by rw [h0]; rfl)
    · obtain ⟨g', o, e, hlt, _⟩ := hcellb 0 (bs 0) (by rw [List.getElem?_map, List.getElem?_range (by omega)]; rfl)
      injection e with e
      subst e
      simp only [Value.ownBlock, Option.some.injEq] at hg
      subst hg
      exact .inl hlt
end

section
variable {H : Type} {enc : TypeId × Value → H} {P : Program} {W : World} {base : Nat} {spare : Nat → Bool} {held : Bool}
theorem weights_each {ts : List TypeId} {ds : List (DataW H)} (h : (DataW.weightsEach P ts ds).all (· ≤ reachBytes) = true) {j : Nat} {t : TypeId} {d : DataW H} (ht : ts[j]? = some t) (hd : ds[j]? = some d) : ∀ n ∈ d.weights P t, n ≤ reachBytes :=
  fun n hn => by simpa using List.all_eq_true.1 h _ (DataW.weights_mem_each ht hd n hn)
theorem trodAll_one {t : TypeId} {args : Array Value} {ds : List (DataW H)} {ps : List MemPlace} (h : DataW.TrodAll enc P W base spare held [t] args.toList ds ps) :
    ∃ v d p, args = #[v] ∧ ds = [d] ∧ DataW.Trod enc P W base spare held t v d p := by
  obtain ⟨v, vs, d, ds', p, q, hargs, rfl, rfl, hd, hrest⟩ := trodAll_cons h
  obtain ⟨rfl, rfl, rfl⟩ := trodAll_nil hrest
  exact ⟨v, d, p, by cases args; simp_all, rfl, hd⟩
theorem trodAll_two {t t' : TypeId} {args : Array Value} {ds : List (DataW H)} {ps : List MemPlace} (h : DataW.TrodAll enc P W base spare held [t, t'] args.toList ds ps) :
    ∃ v v' d d' p p', args = #[v, v'] ∧ ds = [d, d'] ∧ DataW.Trod enc P W base spare held t v d p ∧ DataW.Trod enc P W base spare held t' v' d' p' := by
  obtain ⟨v, vs, d, ds', p, q, hargs, rfl, rfl, hd, hrest⟩ := trodAll_cons h
  obtain ⟨v', vs', d', ds'', p', q', rfl, rfl, rfl, hd', hrest'⟩ := trodAll_cons hrest
  obtain ⟨rfl, rfl, rfl⟩ := trodAll_nil hrest'
  exact ⟨v, v', d, d', p, p', by cases args; simp_all, rfl, hd, hd'⟩
theorem trodAll_three {t t' t'' : TypeId} {args : Array Value} {ds : List (DataW H)} {ps : List MemPlace} (h : DataW.TrodAll enc P W base spare held [t, t', t''] args.toList ds ps) :
    ∃ v v' v'' d d' d'' p p' p'', args = #[v, v', v''] ∧ ds = [d, d', d''] ∧ DataW.Trod enc P W base spare held t v d p ∧ DataW.Trod enc P W base spare held t' v' d' p' ∧ DataW.Trod enc P W base spare held t'' v'' d'' p'' := by
  obtain ⟨v, vs, d, ds', p, q, hargs, rfl, rfl, hd, hrest⟩ := trodAll_cons h
  obtain ⟨v', vs', d', ds'', p', q', rfl, rfl, rfl, hd', hrest'⟩ := trodAll_cons hrest
  obtain ⟨v'', vs'', d'', ds''', p'', q'', rfl, rfl, rfl, hd'', hrest''⟩ := trodAll_cons hrest'
  obtain ⟨rfl, rfl, rfl⟩ := trodAll_nil hrest''
  exact ⟨v, v', v'', d, d', d'', p, p', p'', by cases args; simp_all, rfl, hd, hd', hd''⟩
end
theorem u32_wf {n : Int} (h : (Lit.int .u32 n).wf = true) : ∃ m : Nat, n = (m : Int) ∧ m < 4294967296 := by
  have h2 : IntKind.u32.min ≤ n ∧ n ≤ IntKind.u32.max := by simpa [Lit.wf] using h
  have hm : IntKind.u32.min = 0 := by decide
  have hM : IntKind.u32.max = 4294967295 := by decide
  rw [hm, hM] at h2
  exact ⟨n.toNat, (Int.toNat_of_nonneg h2.1).symm, by omega⟩
theorem u64_wf {n : Int} (h : (Lit.int .u64 n).wf = true) : ∃ m : Nat, n = (m : Int) ∧ m < 18446744073709551616 := by
  have h2 : IntKind.u64.min ≤ n ∧ n ≤ IntKind.u64.max := by simpa [Lit.wf] using h
  have hm : IntKind.u64.min = 0 := by decide
  have hM : IntKind.u64.max = 18446744073709551615 := by decide
  rw [hm, hM] at h2
  exact ⟨n.toNat, (Int.toNat_of_nonneg h2.1).symm, by omega⟩
section
open Go.ChangeShapes
variable {H : Type} {enc : TypeId × Value → H} {W : World} {b base : Nat} {spare : Nat → Bool} {held : Bool}
/-- A slice of bytes that came in. -/
theorem open_bytes {v : Value} {d : DataW H} {ps : List MemPlace} (hv : Value.okWide Tryd.prog W .any b 74 v) (h : DataW.Trod enc Tryd.prog W base spare held 74 v d ps) (hw : ∀ n ∈ d.weights Tryd.prog 74, n ≤ reachBytes) :
    ∃ l, RB W v l ∧ l.length ≤ 140737488351232 := by
  obtain ⟨pa, n, cp, rfl⟩ := Go.WideShapes.okWide_slice by_tu hv
  obtain ⟨fuel, hf⟩ := h
  obtain ⟨l, hr, _, hlen⟩ := rb_of_trod hf hw
  exact ⟨l, hr, hlen⟩
end
end Go.Proofs.YtckbckdaffdjmaaDoor

/- A slice of words that came in. -/
namespace Go.Proofs.YtckbckdaffdjmaaDoor
open Go.RowKit Go.ChangeShapes
set_option maxRecDepth 100000
set_option linter.unusedVariables false
set_option linter.unusedSimpArgs false

theorem uy_u64 : Tryd.prog.underlying 58 = some (.int .u64) := by kernel_rfl
theorem uy_c1 : Tryd.prog.cellsOf 58 = 1 := by kernel_rfl
theorem uy_b8 : Tryd.prog.bytesOf 58 = 8 := by kernel_rfl
theorem uv_of_wf {n : Int} (h : (Lit.int .u64 n).wf = true) : ∃ b : UInt64, Value.int .u64 n = uv b := by
  obtain ⟨m, rfl, hm⟩ := u64_wf h
  exact ⟨UInt64.ofNat m, by show _ = Value.int .u64 ((UInt64.ofNat m).toNat : Int); rw [UInt64.toNat_ofNat', Nat.mod_eq_of_lt hm]⟩
section
variable {H : Type} {enc : TypeId × Value → H} {W : World} {base : Nat} {spare : Nat → Bool} {held : Bool}
/-- A slice of words that came in reads as a list. -/
theorem ru_of_trod {fuel : Nat} {v : Value} {x : DataW H × List MemPlace} (h : DataW.trod enc Tryd.prog W base spare held fuel 22 [v] = some x) (hw : ∀ n ∈ x.1.weights Tryd.prog 22, n ≤ reachBytes) :
    ∃ l, RU W v l ∧ l.length ≤ 17592186043904 := by
  rcases Go.Deep.open_slice1 uy_tu uy_c1 h with ⟨hcs, rfl⟩ | ⟨a, len, cap, m, n, V, D, Pl, hcs, hb, hl, hm, hmm, rfl, hx⟩
  · cases hcs
    exact ⟨[], RU.nil_ W, by simp⟩
  · simp only [List.cons.injEq, and_true] at hcs
    subst hcs
    have hlm : len ≤ m := by rw [hmm]; split <;> omega
    have hlen : len ≤ 17592186043904 := by
      have := hw ((len + (m - len)) * Tryd.prog.bytesOf 58) (by simp [DataW.weights, uy_tu])
      rw [uy_b8] at this
      simp only [reachBytes] at this
      omega
    have hB : ∀ i, i < len → ∃ b : UInt64, V i = uv b := fun i hi => by
      obtain ⟨_, ht⟩ := hx i (by omega)
      obtain ⟨k, e, _, hwf⟩ := DataW.trod_int uy_u64 ht
      simp only [List.cons.injEq, and_true] at e
      obtain ⟨b, hb⟩ := uv_of_wf hwf
      exact ⟨b, e.trans hb⟩
    obtain ⟨bs, hbs⟩ := Go.Deep.choose_lt (α := UInt64) (p := fun i b => V i = uv b) hB
    have hll : ((List.range len).map bs).length = len := by simp
    have hcellb : ∀ i b, ((List.range len).map bs)[i]? = some b → ∃ g o, some a = some (⟨g, o, none⟩ : Addr) ∧ g < W.heap.size ∧ W.cell? ⟨g, o + i, none⟩ = some (uv b) := fun i b hi => by
      have hil : i < len := by have := (List.getElem?_eq_some_iff.1 hi).1; simpa using this
      have hbi : bs i = b := by
        rw [List.getElem?_map, List.getElem?_range hil] at hi
        simpa using hi
      obtain ⟨hc, _⟩ := hx i (by omega)
      have hsp := World.cell?_spot (hx 0 (by omega)).1
      obtain ⟨g, off, spot⟩ := a
      have hspot : spot = none := by simpa [Addr.add] using hsp
      subst hspot
      rw [add_flat] at hc
      refine ⟨g, off, rfl, cell_lt hc, ?_⟩
      rw [hc, hbs i hil, hbi]
    exact ⟨(List.range len).map bs, ⟨some a, cap, by rw [hll], by rw [hll]; exact hl, hm, by rw [hll]; omega, hcellb⟩, by rw [hll]; exact hlen⟩
theorem open_words {b : Nat} {v : Value} {d : DataW H} {ps : List MemPlace} (hv : Value.okWide Tryd.prog W .any b 22 v) (h : DataW.Trod enc Tryd.prog W base spare held 22 v d ps) (hw : ∀ n ∈ d.weights Tryd.prog 22, n ≤ reachBytes) :
    ∃ l, RU W v l ∧ l.length ≤ 17592186043904 := by
  obtain ⟨pa, n, cp, rfl⟩ := Go.WideShapes.okWide_slice uy_tu hv
  obtain ⟨fuel, hf⟩ := h
  exact ru_of_trod hf hw
end
end Go.Proofs.YtckbckdaffdjmaaDoor

/- The arguments of chapter 3's laws; the door's own heap meets the condition. -/
namespace Go.Proofs.YtckbckdaffdjmaaDoor
open Go.RowKit Go.ChangeShapes
set_option maxRecDepth 100000
set_option linter.unusedVariables false
set_option linter.unusedSimpArgs false

theorem made_leaves : leaves Tryd.prog 10 24 = some [.bool, .int .i64, .other 22] := by kernel_rfl
section
variable {H : Type} {enc : TypeId × Value → H} {W : World} {b base : Nat} {spare : Nat → Bool} {held : Bool}
/-- A Made that came in. -/
theorem open_made {v : Value} {d : DataW H} {ps : List MemPlace} (hv : Value.okWide Tryd.prog W .any b 24 v) (h : DataW.Trod enc Tryd.prog W base spare held 24 v d ps) (hw : ∀ n ∈ d.weights Tryd.prog 24, n ≤ reachBytes) :
    ∃ (fr : Bool) (n : Int) (xv : Value) (V : List UInt64), v = .agg #[.bool fr, .int .i64 n, xv] ∧ (Lit.int .i64 n).wf = true ∧ RU W xv V ∧ V.length ≤ 17592186043904 := by
  obtain ⟨cs, rfl, hl⟩ := open_leavesW (R := reachBytes) made_leaves (by kernel_rfl) hv h hw
  obtain ⟨fr, _, rfl, hl1⟩ := hl.bool
  obtain ⟨n, _, rfl, hn, hl⟩ := hl1.int
  obtain ⟨vp, _, rfl, ⟨fuel, x, hx, hwx⟩, hl⟩ := hl.other
  obtain rfl := hl.unnil
  obtain ⟨l, hr, hlen⟩ := ru_of_trod hx hwx
  exact ⟨fr, n, vp, l, rfl, hn, hr, hlen⟩
end
theorem door_met (os : Os) (args : Array Value) : laidMetH Tryd.prog [("math/bits.deBruijn64tab", Rows.laid_math_bits_deBruijn64tab)] ((World.doorLaid Tryd.prog 400 os).forCall (fun _ _ => 0) ⟨#[], args, []⟩).memory :=
  laidMetH_of_parts3 (fuel := 8) (laidMet_of_run' 8 (by kernel_rfl) (by kernel_rfl)) (by kernel_rfl) (by kernel_rfl)
/-- The zero Made, as an argument. -/
abbrev zeroM : Value := .agg #[.bool false, .int .i64 0, .slice none 0 0]
end Go.Proofs.YtckbckdaffdjmaaDoor

/- The law's scripts: slices of Op. -/
namespace Go.Proofs.YtckbckdaffdjmaaDoor
open Go.RowKit
set_option maxRecDepth 100000
set_option linter.unusedVariables false
set_option linter.unusedSimpArgs false

/-- One call of a script. -/
structure OpV where
  kind : Int
  second : Bool
  a : Int
  b : Int
  words : List UInt64
  wv : Value
  bv : Value
  av : Value
  again : Bool
def opL (o : OpV) : List Value := [.int .i64 o.kind, .bool o.second, .int .i64 o.a, .int .i64 o.b, o.wv, o.bv, o.av, .bool o.again]
structure OkOp (w : World) (o : OpV) : Prop where
  kw : (Lit.int .i64 o.kind).wf = true
  aw : (Lit.int .i64 o.a).wf = true
  bw : (Lit.int .i64 o.b).wf = true
  words : RU w o.wv o.words
  len : o.words.length ≤ 17592186043904
  bone : o.bv.oneCell' = true
  aone : o.av.oneCell' = true
theorem OkOp.below {w w' : World} {o : OpV} (h : OkOp w o) (hb : Below w.heap.size w w') : OkOp w' o := ⟨h.kw, h.aw, h.bw, h.words.below hb, h.len, h.bone, h.aone⟩
/-- A slice of calls. -/
def SlOp (w : World) (v : Value) (l : List OpV) : Prop :=
  ∃ q c, v = .slice q l.length c ∧ l.length ≤ 1256584717715 ∧ ∀ (i : Nat) (o : OpV), l[i]? = some o → ∃ g off, q = some ⟨g, off, none⟩ ∧ g < w.heap.size ∧ OkOp w o ∧ w.rangeAt g (off + i * 8) (opL o)
theorem SlOp.below {w w' : World} {v : Value} {l : List OpV} (h : SlOp w v l) (hb : Below w.heap.size w w') : SlOp w' v l := by
  obtain ⟨q, c, e, hl, hr⟩ := h
  refine ⟨q, c, e, hl, fun i o ho => ?_⟩
  obtain ⟨g, off, h1, h2, h3, h4⟩ := hr i o ho
  exact ⟨g, off, h1, Nat.lt_of_lt_of_le h2 hb.size, h3.below hb, fun j u hu => ((bcell hb).1 g _ h2).trans (h4 j u hu)⟩
theorem opt : Tryd.prog.underlying 39 = some (.struct (Tryd.prog.fieldsOf 39)) := by kernel_rfl
theorem opi : (Tryd.prog.info? 39).map (·.size) = some 8 := by kernel_rfl
theorem load_op {w : World} {g off : Nat} {o : OpV} (h : w.rangeAt g off (opL o)) : (Instr.loadAt 39 (.pointer (some ⟨g, off, none⟩))).run Tryd.prog w = .ok (.agg (opL o).toArray) w :=
  run_loadAt_mid w g off _ (opL o) _ h opt rfl (by rw [opi]; rfl)
theorem load_opA {w : World} {b : Nat} {o : OpV} (h : Rw w b 39 (opL o)) : (Instr.loadAt 39 (.pointer (some ⟨b, 0, none⟩))).run Tryd.prog w = .ok (.agg (opL o).toArray) w :=
  load_op fun j u hu => by rw [Nat.zero_add]; exact h.cell hu
theorem idx_op (w : World) (g o n c i : Nat) (hi : i < n) : (Instr.indexAt 49 (.slice (some ⟨g, o, none⟩) n c) (.int .i64 i)).run Tryd.prog w = .ok (.pointer (some ⟨g, o + i * 8, none⟩)) w := by
  have h1 : (i : Int) < (n : Int) := by omega
  have h0 : (0 : Int) ≤ (i : Int) := Int.natCast_nonneg i
  go_simp
def opZ : List Value := [.int .i64 0, .bool false, .int .i64 0, .int .i64 0, .slice none 0 0, .slice none 0 0, .slice none 0 0, .bool false]
theorem alloc_op {ρ : Operand → Value} {o : Oper} (ho : o.op = .alloc 39) (w : World) : (execOp ρ o).run Tryd.prog w = .ok (.value (.pointer (some ⟨w.heap.size, 0, none⟩))) (w.alloc (.cells opZ.toArray 39)) := by
  unfold execOp
  rw [ho]
  kernel_rfl
theorem exec_idx {P : Program} {ρ : Operand → Value} {o : Oper} {x y : Operand} {t : TypeId} {w : World} {v : Value} (ho : o.op = .indexAddr t x y) (h : (Instr.indexAt t (ρ x) (ρ y)).run P w = .ok v w) : (execOp ρ o).run P w = .ok (.value v) w := by
  unfold execOp
  rw [ho]
  simp [h]
theorem opL_one {w : World} {o : OpV} (h : OkOp w o) : ∀ u ∈ opL o, u.oneCell' = true := by
  obtain ⟨p, c, e⟩ := h.words.form
  intro u hu
  simp only [opL, List.mem_cons, List.not_mem_nil, or_false] at hu
  rcases hu with rfl | rfl | rfl | rfl | rfl | rfl | rfl | rfl
  all_goals first | rfl | exact h.bone | exact h.aone | (rw [e]; rfl)
/-- The call's own copy. -/
theorem op_copy {w : World} {o : OpV} (h : OkOp w o) : ∃ w', w' = (w.alloc (.cells opZ.toArray 39)).setCells w.heap.size 0 (opL o) ∧ Rw w' w.heap.size 39 (opL o) ∧ Below w.heap.size w w' := by
  refine ⟨_, rfl, setCells_heap (opL o) 0 _ opZ (heap_new _ _ _ rfl), ?_⟩
  exact (below_alloc1 w _).grown (setCells_grown _ w.heap.size 0 _) (by simp) (fun k hk => by injection hk with hk; omega)
end Go.Proofs.YtckbckdaffdjmaaDoor
