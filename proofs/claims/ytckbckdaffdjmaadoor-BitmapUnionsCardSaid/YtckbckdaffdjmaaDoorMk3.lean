/- Walks and plain laws of the packets and frames, joined from: BkKn, LfU, Bok, MdU, MdF, AskA, RgIn, RgLaw, Masks, Fits, BmPut. -/
import Derived.Test.YtckbckdaffdjmaaDoorMk2
import Derived.BigQuiet
import Derived.RangeFuncFrom
import Derived.RangeFuncLeaves
import Derived.RangeFuncCalls
import Derived.OrdersIn
import Derived.RangeFuncNested
import Derived.RangeFuncBound
import Derived.WalkKit
import Derived.OwnWalkIn
import Derived.TacticsInMore
import Derived.LoopNIn
import Derived.LoopIn
/- keep, where it writes at once. -/
namespace Go.Proofs.YtckbckdaffdjmaaDoor
open Go.RowKit
set_option maxRecDepth 100000
set_option linter.unusedVariables false
set_option linter.unusedSimpArgs false

theorem mkN_nat {n : Nat} (h : n ≤ 5864062014805) (he : n % 2 = 0) : (mkN n).toNat = 11529215046068469761 + n := by
  unfold mkN; rw [Bm.toNat_of (by omega)]; omega
theorem rep_set (l : List UInt64) (y : UInt64) {i : Nat} (h : i < l.length) : (List.replicate i y ++ l.drop i).set i y = List.replicate (i + 1) y ++ l.drop (i + 1) := by
  apply List.ext_getElem?
  intro j
  by_cases e : i = j
  · subst e
    rw [List.getElem?_set_self (by simp; omega), List.getElem?_append_left (by simp), List.getElem?_replicate, if_pos (by omega)]
  · rw [List.getElem?_set_ne e]
    by_cases hj : j < i
    · rw [List.getElem?_append_left (by simpa using hj), List.getElem?_append_left (by simp; omega), List.getElem?_replicate, List.getElem?_replicate, if_pos hj, if_pos (by omega)]
    · rw [List.getElem?_append_right (by simp; omega), List.getElem?_append_right (by simp; omega), List.getElem?_drop, List.getElem?_drop, List.length_replicate, List.length_replicate, show i + (j - i) = j by omega, show i + 1 + (j - (i + 1)) = j by omega]
theorem cell_one (w : World) (x : Value) (t : TypeId) : (w.alloc (.cells #[x] t)).cell? ⟨w.heap.size, 0, none⟩ = some x := (has_cell (heap_new w (.cells #[x] t) w.heap.size rfl) 0).trans rfl
theorem RU.keepAt {w w' : World} {q : Option Addr} {n c : Nat} {l : List UInt64} (h : RU w (.slice q n c) l) (hq : ∀ a, q = some a → a.off = 0) (hs : w.heap.size ≤ w'.heap.size)
    (hk : ∀ g i, q = some ⟨g, 0, none⟩ → i < l.length → g < w.heap.size → w'.cell? ⟨g, i, none⟩ = w.cell? ⟨g, i, none⟩) : RU w' (.slice q n c) l := by
  obtain ⟨p, c', e, h1, h2, h3, hr⟩ := h
  simp only [Value.slice.injEq] at e
  obtain ⟨rfl, rfl, rfl⟩ := e
  refine ⟨q, c, rfl, h1, h2, h3, fun i b hb => ?_⟩
  obtain ⟨g, o, e, hg, hc⟩ := hr i b hb
  have ho : o = 0 := hq _ e
  subst ho
  refine ⟨g, 0, e, by omega, ?_⟩
  rw [Nat.zero_add] at hc ⊢
  exact (hk g i e (List.getElem?_eq_some_iff.1 hb).1 hg).trans hc
theorem OU.off {B : Nat} {w : World} {q : Option Addr} {n c : Nat} {l : List UInt64} (h : OU B w (.slice q n c) l) : ∀ a, q = some a → a.off = 0 := by
  obtain ⟨⟨h0, ⟨e, hn⟩ | ⟨g, cap, cur, e, hr⟩⟩, hl⟩ := h
  · simp only [Value.slice.injEq] at e
    obtain ⟨rfl, -, -⟩ := e
    intro a ha; cases ha
  · simp only [Value.slice.injEq] at e
    obtain ⟨rfl, -, -⟩ := e
    intro a ha; injection ha with ha; rw [← ha]
set_option maxHeartbeats 4000000 in
theorem keep_now3 {w : World} {b : Nat} {own : Nat → Nat} {cur : Nat} {v0 v2 v3 : Value} {K0 K2 K3 : List Value} {Ws : List (List UInt64)} (hb : Bk3 w b own false cur v0 v2 v3 K0 K2 K3 Ws) (hN : K0.length + 2 ≤ 5864062014805) {x : Value} {l : List UInt64} (hx : OU 0 w x l) (hl : l.length + 80 ≤ 17592186044416)
    (ht : ∀ g, x.ownBlock = some g → own g = 0 ∨ own g = 10 + cur) :
    Calls Tryd.prog 23 #[.pointer (some ⟨b, 0, none⟩), x] w fun e w' => e = .returned (.tuple #[]) ∧ ∃ own' u y, Bk3 w' b own' false (cur + 1) u v2 v3 (K0 ++ [x, y]) K2 K3 Ws ∧ (∀ k, k < w.heap.size → own' k = if x.ownBlock = some k then 9 else own k) ∧ Mod (fun k => k = b ∨ v0.ownBlock = some k ∨ x.ownBlock = some k) w w' := by
  have hev := hb.even
  have hmN := mkN_nat (n := K0.length) (by omega) hev
  obtain ⟨M, hM0⟩ : ∃ M, M = mkN K0.length := ⟨_, rfl⟩
  have HM0 := Lib.hid hM0
  rw [← hM0] at hmN
  have hM1 : IntKind.u64.wrap (11529215046068469761 + (K0.length : Int)) = (M.toNat : Int) := by rw [hmN, show (11529215046068469761 : Int) + (K0.length : Int) = ((11529215046068469761 + K0.length : Nat) : Int) by omega]; exact wrap_nat (by omega)
  have hM2 : IntKind.u64.wrap (K0.length : Int) = (K0.length : Int) := wrap_nat (by omega)
  obtain ⟨p0, cp0, e0⟩ := hb.r0.form
  obtain ⟨q, c, hxe⟩ := hx.ru.form
  have hxb : ∀ g, x.ownBlock = some g → g < w.heap.size ∧ (own g = 0 ∨ own g = 10 + cur) := fun g e => ⟨(hx.lt g e).2, ht g e⟩
  have hxn : ∀ g, x.ownBlock = some g → g ≠ b ∧ v0.ownBlock ≠ some g := fun g e => by
    refine ⟨fun e' => ?_, fun e' => ?_⟩
    · rcases ht g e with h1 | h1 <;> rw [e', hb.tb] at h1 <;> omega
    · rcases ht g e with h1 | h1 <;> rw [hb.t0 g e'] at h1 <;> omega
  have lb := heap_lt hb.blk
  have c1 := hb.blk.cell (i := 1) rfl
  have c0 := hb.blk.cell (i := 0) rfl
  have HQ : Hid (∀ a, q = some a → a.off = 0) := Lib.hid (by subst hxe; exact hx.off)
  have HB := Lib.hid hb
  have HX := Lib.hid hx
  have HN := Lib.hid hN
  have HL := Lib.hid hl
  have HXB := Lib.hid hxb
  have HXN := Lib.hid hxn
  clear hb hx hN hl hxb hxn hM0 hmN hev ht
  subst hxe
  rw [e0] at c0
  go_enter Tryd.func23, Tryd.ntmps23
  go_wp2_with fail
  refine wp_loop_count (fun i a w' => Is (fun U => ⟨#[.pointer (some ⟨b, 0, none⟩), .slice q l.length c, U 2, U 3, uv M, .int .i64 i, U 6, U 7, U 8, U 9, U 10, U 11, U 12, U 13, U 14, U 15, U 16, U 17, U 18, U 19, U 20, U 21, U 22, U 23, U 24, U 25, U 26, U 27, U 28, U 29, U 30, U 31, U 32, U 33, U 34, U 35, U 36, U 37, U 38, U 39, U 40, U 41, U 42, U 43, U 44, U 45, U 46, U 47, U 48, U 49, U 50, U 51, U 52, U 53, U 54, U 55, U 56, U 57, U 58, U 59, U 60, U 61, U 62, U 63, U 64, U 65, U 66, U 67, U 68, U 69, U 70, U 71, U 72, U 73, U 74, U 75, U 76, U 77, U 78, U 79], []⟩) a ∧ OU 0 w' (.slice q l.length c) (List.replicate i M ++ l.drop i) ∧ Mod (fun k => (Value.slice q l.length c).ownBlock = some k) w w') l.length ⟨isU (fun U => ⟨#[.pointer (some ⟨b, 0, none⟩), .slice q l.length c, U 2, U 3, uv M, .int .i64 0, U 6, U 7, U 8, U 9, U 10, U 11, U 12, U 13, U 14, U 15, U 16, U 17, U 18, U 19, U 20, U 21, U 22, U 23, U 24, U 25, U 26, U 27, U 28, U 29, U 30, U 31, U 32, U 33, U 34, U 35, U 36, U 37, U 38, U 39, U 40, U 41, U 42, U 43, U 44, U 45, U 46, U 47, U 48, U 49, U 50, U 51, U 52, U 53, U 54, U 55, U 56, U 57, U 58, U 59, U 60, U 61, U 62, U 63, U 64, U 65, U 66, U 67, U 68, U 69, U 70, U 71, U 72, U 73, U 74, U 75, U 76, U 77, U 78, U 79], []⟩) rfl, by simpa using HX.out, Mod.refl _ _⟩ ?_ ?_
  · rintro i a w' hi ⟨hU, hO, hm⟩
    obtain ⟨U, rfl⟩ := hU.out
    obtain ⟨g, z, rfl, hg, hc0, hf0, hO2, hgr⟩ := hO.store (i := i) (by simp; omega) M
    rw [rep_set l M hi] at hO2
    have hm2 := hm.trans (Mod.grown (F := fun k => (Value.slice (some ⟨g, 0, none⟩) l.length c).ownBlock = some k) hgr (fun k e _ => e))
    have HO := Lib.hid hO2
    have HM := Lib.hid hm2
    have hi' : (i : Int) < (l.length : Int) := by exact_mod_cast hi
    have hi2 : (l.length : Int) ≤ 17592186044416 := by have := HL.out; omega
    have hi0 : (0 : Int) ≤ (i : Int) := Int.natCast_nonneg i
    clear hU hO hm hO2 hm2 hgr hM1 hM2 c0 c1
    go_wp2_with fail
    exact ⟨isU (fun U => ⟨#[.pointer (some ⟨b, 0, none⟩), .slice (some ⟨g, 0, none⟩) l.length c, U 2, U 3, uv M, .int .i64 (i + 1 : Nat), U 6, U 7, U 8, U 9, U 10, U 11, U 12, U 13, U 14, U 15, U 16, U 17, U 18, U 19, U 20, U 21, U 22, U 23, U 24, U 25, U 26, U 27, U 28, U 29, U 30, U 31, U 32, U 33, U 34, U 35, U 36, U 37, U 38, U 39, U 40, U 41, U 42, U 43, U 44, U 45, U 46, U 47, U 48, U 49, U 50, U 51, U 52, U 53, U 54, U 55, U 56, U 57, U 58, U 59, U 60, U 61, U 62, U 63, U 64, U 65, U 66, U 67, U 68, U 69, U 70, U 71, U 72, U 73, U 74, U 75, U 76, U 77, U 78, U 79], []⟩) rfl, HO.out, HM.out⟩
  · rintro a w' ⟨hU, hO, hm⟩
    obtain ⟨U, rfl⟩ := hU.out
    rw [List.drop_length, List.append_nil] at hO
    have HO := Lib.hid hO
    have HM := Lib.hid hm
    clear hU hO hm hM1 hM2 c0 c1
    go_wp2_with fail
    refine wp_loop_count (fun j a w1 => ∃ y, Is (fun U => ⟨#[.pointer (some ⟨b, 0, none⟩), .slice q l.length c, U 2, U 3, uv M, U 5, y, .int .i64 j, U 8, U 9, U 10, U 11, U 12, U 13, U 14, U 15, U 16, U 17, U 18, U 19, U 20, U 21, U 22, U 23, U 24, U 25, U 26, U 27, U 28, U 29, U 30, U 31, U 32, U 33, U 34, U 35, U 36, U 37, U 38, U 39, U 40, U 41, U 42, U 43, U 44, U 45, U 46, U 47, U 48, U 49, U 50, U 51, U 52, U 53, U 54, U 55, U 56, U 57, U 58, U 59, U 60, U 61, U 62, U 63, U 64, U 65, U 66, U 67, U 68, U 69, U 70, U 71, U 72, U 73, U 74, U 75, U 76, U 77, U 78, U 79], []⟩) a ∧ OU 0 w1 y (List.replicate (l.length + j) M) ∧ RU w1 (.slice q l.length c) (List.replicate l.length M) ∧ (y.ownBlock = (Value.slice q l.length c).ownBlock ∨ ∃ g, y.ownBlock = some g ∧ w.heap.size ≤ g) ∧ Mod (fun k => (Value.slice q l.length c).ownBlock = some k) w w1) 80 ⟨.slice q l.length c, isU (fun U => ⟨#[.pointer (some ⟨b, 0, none⟩), .slice q l.length c, U 2, U 3, uv M, U 5, .slice q l.length c, .int .i64 0, U 8, U 9, U 10, U 11, U 12, U 13, U 14, U 15, U 16, U 17, U 18, U 19, U 20, U 21, U 22, U 23, U 24, U 25, U 26, U 27, U 28, U 29, U 30, U 31, U 32, U 33, U 34, U 35, U 36, U 37, U 38, U 39, U 40, U 41, U 42, U 43, U 44, U 45, U 46, U 47, U 48, U 49, U 50, U 51, U 52, U 53, U 54, U 55, U 56, U 57, U 58, U 59, U 60, U 61, U 62, U 63, U 64, U 65, U 66, U 67, U 68, U 69, U 70, U 71, U 72, U 73, U 74, U 75, U 76, U 77, U 78, U 79], []⟩) rfl, HO.out, HO.out.ru, .inl rfl, HM.out⟩ ?_ ?_
    · rintro j a w1 hj ⟨y, hU, hO, hR, hyb, hm⟩
      obtain ⟨U, rfl⟩ := hU.out
      have hb1 := below_alloc1 w1 (.cells #[uv M] 58)
      have hO1 := hO.below hb1
      have hR1 := hR.below hb1
      have hlit := RU.lit w1 #[uv M] [M] 1 rfl rfl (by simp)
      have hlen : (List.replicate (l.length + j) M).length + 1 ≤ 17592186044416 := by rw [List.length_replicate]; have := HL.out; omega
      have hj' : (j : Int) < 80 := by exact_mod_cast hj
      have hj0 : (0 : Int) ≤ (j : Int) := Int.natCast_nonneg j
      have HO1 := Lib.hid hO1
      have HR1 := Lib.hid hR1
      have HLT := Lib.hid hlit
      have HLN := Lib.hid hlen
      have HM1 := Lib.hid hm
      have HYB := Lib.hid hyb
      have HB1 := Lib.hid hb1
      clear hU hO hR hyb hm hb1 hO1 hR1 hlit hlen
      go_wp2_with (first | (at_builtin; refine wpList_append_word (v := y) rfl (.tmp 56) (.tmp 58) rfl rfl rfl rfl HO1.out HLT.out HLN.out (Nat.zero_le _) ?_; intro y2 w2 hO2 hg2 hat2 hsame2) | fail)
      rw [← List.replicate_succ', Nat.add_assoc] at hO2
      have hsz1 : w.heap.size ≤ (w1.alloc (.cells #[uv M] 58)).heap.size := Nat.le_trans HM1.out.size HB1.out.size
      have hR2 : RU w2 (.slice q l.length c) (List.replicate l.length M) := by
        refine HR1.out.keepAt HQ.out hg2.size fun g i eg hi hlt => ?_
        by_cases e : y.ownBlock = some g
        · exact hsame2 g i e (by simp at hi ⊢; omega)
        · exact World.cell?_of_block (hg2.block g hlt (fun e' => e e'.symm))
      refine ⟨y2, isU (fun U => ⟨#[.pointer (some ⟨b, 0, none⟩), .slice q l.length c, U 2, U 3, uv M, U 5, y2, .int .i64 (j + 1 : Nat), U 8, U 9, U 10, U 11, U 12, U 13, U 14, U 15, U 16, U 17, U 18, U 19, U 20, U 21, U 22, U 23, U 24, U 25, U 26, U 27, U 28, U 29, U 30, U 31, U 32, U 33, U 34, U 35, U 36, U 37, U 38, U 39, U 40, U 41, U 42, U 43, U 44, U 45, U 46, U 47, U 48, U 49, U 50, U 51, U 52, U 53, U 54, U 55, U 56, U 57, U 58, U 59, U 60, U 61, U 62, U 63, U 64, U 65, U 66, U 67, U 68, U 69, U 70, U 71, U 72, U 73, U 74, U 75, U 76, U 77, U 78, U 79], []⟩) rfl, hO2, hR2, ?_, ?_⟩
      · rcases hat2 with e | e
        · rw [e]; exact HYB.out
        · exact .inr ⟨_, e, hsz1⟩
      · refine HM1.out.trans' ((Mod.of_below HB1.out).trans (Mod.grown hg2 fun k e _ => ?_))
        rcases HYB.out with e1 | ⟨g, e1, hg⟩
        · exact .inl (e1 ▸ e)
        · rw [e1] at e; injection e with e; exact .inr (by omega)
    · rintro a w1 ⟨y, hU, hO, hR, hyb, hm⟩
      obtain ⟨U, rfl⟩ := hU.out
      have hb := HB.out
      have nf : ∀ k, (k = b ∨ v0.ownBlock = some k) → ¬ (Value.slice q l.length c).ownBlock = some k := fun k e e' => by
        have := HXN.out k e'
        rcases e with e | e
        · exact this.1 e
        · exact this.2 e
      have hblk := hb.blk.mod hm (nf b (.inl rfl))
      have hr0 := hb.r0.mod hm (fun g e => nf g (.inr e))
      have hvb : ∀ g, v0.ownBlock = some g → g ≠ b := fun g e e' => by have h1 := hb.t0 g e; rw [e', hb.tb] at h1; cases h1
      have hvlt := fun g e => ((hb.r0.lt g e).2 : g < w.heap.size)
      have c0 := hblk.cell (i := 0) rfl
      have hba := below_alloc1 w1 (.cells #[Value.slice q l.length c] 22)
      have hra := hr0.mod (F := fun _ => False) (Mod.of_below hba) (fun _ _ => id)
      have hlen0 : K0.length + 1 ≤ 5864062014805 := by have := HN.out; omega
      rw [e0] at c0
      have HBK := Lib.hid hblk
      have HR0 := Lib.hid hra
      have HBA := Lib.hid hba
      have HM1 := Lib.hid hm
      have HYB := Lib.hid hyb
      have HO1 := Lib.hid hO
      have HR1 := Lib.hid hR
      have HL0 := Lib.hid hlen0
      have HNF := Lib.hid nf
      have HVB := Lib.hid hvb
      have HVL := Lib.hid hvlt
      clear hb nf hblk hr0 hba hra hm hyb hO hR hlen0 hvb hvlt
      obtain ⟨yp, yc, hy⟩ := HO1.out.ru.form
      obtain ⟨yn, hyn⟩ : ∃ yn, yn = (List.replicate (l.length + 80) M).length := ⟨_, rfl⟩
      rw [← hyn] at hy
      have HY := Lib.hid hy
      clear hyn
      subst hy
      go_upto_region 14 with (first
        | (at_builtin
           refine wpList_append_VU (v := v0) rfl (.tmp 64) (.tmp 66) rfl rfl w1.heap.size e0.symm rfl HR0.out (cell_one _ _ _) rfl HL0.out (Nat.zero_le _) ?_
           intro u2 w2 hu2 hg2 hat2
           have hblk2 : Rw w2 b 31 [v0, .bool false, v2, v3] := (HBK.out.below HBA.out).mod (F := fun k => v0.ownBlock = some k) (Mod.grown hg2 fun k e _ => e) (fun e => HVB.out b e rfl)
           have c2 := hblk2.cell (i := 0) rfl
           have f2 := hblk2.frozen 0
           have HU2 := Lib.hid hu2
           have HG2 := Lib.hid hg2
           have HA2 := Lib.hid hat2
           have HB2 := Lib.hid hblk2
           obtain ⟨p2, cp2, eu2⟩ := hu2.form
           clear hu2 hg2 hat2 hblk2
           rw [List.length_append, List.length_singleton] at eu2
           have EU2 := Lib.hid eu2
           rw [eu2])
        | fail)
      have hx1 : (w1.alloc (.cells #[Value.slice q l.length c] 22)).heap.size = w1.heap.size + 1 := by simp
      have hws : w.heap.size ≤ w1.heap.size := HM1.out.size
      have hu2b : ∀ g, u2.ownBlock = some g → v0.ownBlock = some g ∨ w1.heap.size < g := fun g e => by
        rcases HA2.out with e1 | e1
        · exact .inl (e1 ▸ e)
        · rw [e1, hx1] at e; injection e with e; exact .inr (by omega)
      have hu2n : ∀ g, u2.ownBlock = some g → g ≠ b := fun g e e' => by
        rcases hu2b g e with e1 | e1
        · exact HVB.out g e1 e'
        · omega
      have hyn : ∀ g, (Value.slice yp yn yc).ownBlock = some g → g ≠ b ∧ v0.ownBlock ≠ some g := fun g e => by
        rcases HYB.out with e1 | ⟨g', e1, hg⟩
        · exact HXN.out g (e1 ▸ e)
        · rw [e1] at e; injection e with e
          exact ⟨by omega, fun e2 => by have := HVL.out g e2; omega⟩
      have hylt : ∀ g, (Value.slice yp yn yc).ownBlock = some g → g < w1.heap.size := fun g e => (HO1.out.lt g e).2
      have hblk3 := HB2.out.set 0 u2
      have hu3 : VU 0 (w2.setCell ⟨b, 0, none⟩ u2) u2 (K0 ++ [Value.slice q l.length c]) := HU2.out.mod (F := fun k => k = b) (Mod.setCell _ _ _ _ rfl) hu2n
      have hm3 : Mod (fun k => k = b ∨ v0.ownBlock = some k) w1 (w2.setCell ⟨b, 0, none⟩ u2) :=
        (Mod.of_below HBA.out).trans ((Mod.grown HG2.out fun k e _ => .inr e).trans (Mod.setCell _ _ _ _ (.inl rfl)))
      have hO3 := HO1.out.mod hm3 (fun g e e' => by
        rcases e' with e' | e'
        · exact (hyn g e).1 e'
        · exact (hyn g e).2 e')
      have hR3 := HR1.out.mod hm3 (fun _ g e e' => HNF.out g e' e)
      have hlen3 : (K0 ++ [Value.slice q l.length c]).length + 1 ≤ 5864062014805 := by have := HN.out; rw [List.length_append, List.length_singleton]; omega
      rw [← EU2.out] 
      have c3 := hblk3.cell (i := 0) rfl
      obtain ⟨w3, hw3⟩ : ∃ w3, w3 = w2.setCell ⟨b, 0, none⟩ u2 := ⟨_, rfl⟩
      rw [← hw3] at hblk3 hu3 hm3 hO3 hR3 c3 ⊢
      have hba3 := below_alloc1 w3 (.cells #[Value.slice yp yn yc] 22)
      have hra3 := hu3.mod (F := fun _ => False) (Mod.of_below hba3) (fun _ _ => id)
      have HBK3 := Lib.hid hblk3
      have HBA3 := Lib.hid hba3
      have HRA3 := Lib.hid hra3
      have HO3 := Lib.hid hO3
      have HR3 := Lib.hid hR3
      have HL3 := Lib.hid hlen3
      have HM3 := Lib.hid hm3
      have HYN := Lib.hid hyn
      have HYL := Lib.hid hylt
      have HUB := Lib.hid hu2b
      have HUN := Lib.hid hu2n
      have HWS := Lib.hid hws
      rw [eu2] at c3
      clear hblk3 hu3 hm3 hO3 hR3 hlen3 hw3 hba3 hra3 hyn hylt hu2b hu2n hx1 hws c2 f2 c0
      go_wp2_with (first
        | (at_builtin
           refine wpList_append_VU (v := u2) rfl (.tmp 74) (.tmp 76) rfl rfl w3.heap.size EU2.out.symm rfl HRA3.out (cell_one _ _ _) rfl HL3.out (Nat.zero_le _) ?_
           intro u4 w4 hu4 hg4 hat4
           have hblk4 : Rw w4 b 31 [u2, .bool false, v2, v3] := (HBK3.out.below HBA3.out).mod (F := fun k => u2.ownBlock = some k) (Mod.grown hg4 fun k e _ => e) (fun e => HUN.out b e rfl)
           have c4 := hblk4.cell (i := 0) rfl
           have f4 := hblk4.frozen 0
           have HU4 := Lib.hid hu4
           have HG4 := Lib.hid hg4
           have HA4 := Lib.hid hat4
           have HB4 := Lib.hid hblk4
           obtain ⟨p4, cp4, eu4⟩ := hu4.form
           clear hu4 hg4 hat4 hblk4
           rw [List.length_append, List.length_append, List.length_singleton, List.length_singleton] at eu4
           have EU4 := Lib.hid eu4
           rw [eu4])
        | fail)
      go_end0
      rw [← EU4.out]
      refine ⟨rfl, ?_⟩
      obtain ⟨w5, hw5⟩ : ∃ w5, w5 = w4.setCell ⟨b, 0, none⟩ u4 := ⟨_, rfl⟩
      have hb := HB.out
      have hs3 : (w3.alloc (.cells #[Value.slice yp yn yc] 22)).heap.size = w3.heap.size + 1 := by simp
      have hw13 : w1.heap.size ≤ w3.heap.size := HM3.out.size
      have hu4b : ∀ g, u4.ownBlock = some g → u2.ownBlock = some g ∨ w3.heap.size < g := fun g e => by
        rcases HA4.out with e1 | e1
        · exact .inl (e1 ▸ e)
        · rw [e1, hs3] at e; injection e with e; exact .inr (by omega)
      have hu4n : ∀ g, u4.ownBlock = some g → g ≠ b := fun g e e' => by
        rcases hu4b g e with e1 | e1
        · exact HUN.out g e1 e'
        · have := HWS.out; omega
      have hm5 : Mod (fun k => k = b ∨ v0.ownBlock = some k ∨ w1.heap.size ≤ k) w3 w5 := by
        rw [hw5]
        refine (Mod.of_below HBA3.out).trans ((Mod.grown HG4.out fun k e _ => ?_).trans (Mod.setCell _ _ _ _ (.inl rfl)))
        rcases HUB.out k e with e1 | e1
        · exact .inr (.inl e1)
        · exact .inr (.inr (by omega))
      have hm15 : Mod (fun k => k = b ∨ v0.ownBlock = some k) w1 w5 := HM3.out.trans' (hm5.mono fun k _ e => by
        rcases e with e | e | e
        · exact .inl (.inl e)
        · exact .inl (.inr e)
        · exact .inr e)
      have hmw : Mod (fun k => k = b ∨ v0.ownBlock = some k ∨ (Value.slice q l.length c).ownBlock = some k) w w5 :=
        (HM1.out.mono fun k _ e => .inr (.inr e)).trans (hm15.mono fun k _ e => e.elim .inl fun e => .inr (.inl e))
      have hu5 : VU 0 w5 u4 (K0 ++ [Value.slice q l.length c, Value.slice yp yn yc]) := by
        rw [hw5]
        have := HU4.out.mod (F := fun k => k = b) (Mod.setCell w4 b 0 u4 rfl) hu4n
        rwa [List.append_assoc] at this
      have hblk5 : Rw w5 b 31 [u4, .bool false, v2, v3] := by rw [hw5]; exact HB4.out.set 0 u4
      have hylt := HYL.out
      have hnot : ∀ g, ((Value.slice yp yn yc).ownBlock = some g ∨ (Value.slice q l.length c).ownBlock = some g) → g < w1.heap.size → ¬ (g = b ∨ v0.ownBlock = some g) := fun g e hg e' => by
        rcases e with e | e
        · rcases e' with e' | e'
          · exact (HYN.out g e).1 e'
          · exact (HYN.out g e).2 e'
        · exact HNF.out g e' e
      have hO5 : OU 0 w5 (Value.slice yp yn yc) (List.replicate (l.length + 80) M) := HO1.out.mod hm15 fun g e => hnot g (.inl e) (hylt g e)
      have hxl : ∀ g, (Value.slice q l.length c).ownBlock = some g → g < w1.heap.size := fun g e => by have := (HXB.out g e).1; have := HWS.out; omega
      have hR5 : RU w5 (Value.slice q l.length c) (List.replicate l.length M) := HR1.out.mod hm15 fun _ g e => hnot g (.inr e) (hxl g e)
      rw [← hw5]
      rw [HM0.out] at hO5 hR5
      have h0 : u4.ownBlock = v0.ownBlock ∨ ∃ g, u4.ownBlock = some g ∧ w.heap.size ≤ g ∧ (Value.slice yp yn yc).ownBlock ≠ some g := by
        rcases HA4.out with e1 | e1
        · rcases HA2.out with e2 | e2
          · exact .inl (e1.trans e2)
          · refine .inr ⟨_, e1.trans e2, Nat.le_trans HWS.out HBA.out.size, fun e => ?_⟩
            have h1 := hylt _ e
            have h2 := HBA.out.size
            omega
        · refine .inr ⟨_, e1, Nat.le_trans (Nat.le_trans HWS.out hw13) HBA3.out.size, fun e => ?_⟩
          have h1 := hylt _ e
          have h2 := HBA3.out.size
          omega
      obtain ⟨own', h1, h2⟩ := hb.full (x := Value.slice q l.length c) (y := Value.slice yp yn yc) HXB.out hmw hblk5 hu5 h0 hR5 hO5 HYB.out
      exact ⟨own', ⟨u4, _, h1⟩, h2, by rw [← e0]; exact hmw⟩
theorem keep_now {w : World} {b : Nat} {own : Nat → Nat} {cur N0 N2 : Nat} (h : Bkk w b own false cur N0 N2) (hN : N0 + 2 ≤ 5864062014805) {x : Value} {l : List UInt64} (hx : OU 0 w x l) (hl : l.length + 80 ≤ 17592186044416)
    (ht : ∀ g, x.ownBlock = some g → own g = 0 ∨ own g = 10 + cur) :
    Calls Tryd.prog 23 #[.pointer (some ⟨b, 0, none⟩), x] w fun e w' => e = .returned (.tuple #[]) ∧ ∃ own', Bkk w' b own' false (cur + 1) (N0 + 2) N2 ∧ (∀ k, k < w.heap.size → own' k = if x.ownBlock = some k then 9 else own k) ∧ Mod (fun k => own k ≠ 0 ∨ x.ownBlock = some k) w w' := by
  obtain ⟨v0, v2, v3, K0, K2, K3, Ws, hb, hN0, hN2⟩ := h
  subst hN0 hN2
  refine (keep_now3 hb hN hx hl ht).mono fun e w' ⟨he, own', u, y, h1, h2, hm⟩ => ⟨he, own', ⟨u, v2, v3, _, _, _, _, h1, by simp, rfl⟩, h2, hm.mono fun k hk e => ?_⟩
  rcases e with e | e | e
  · exact .inl (by rw [e, hb.tb]; decide)
  · exact .inl (by rw [hb.t0 k e]; decide)
  · exact .inr e
end Go.Proofs.YtckbckdaffdjmaaDoor

/- The law's own functions on lists of words: copied, sameWords, intact. -/
namespace Go.Proofs.YtckbckdaffdjmaaDoor
open Go.RowKit
set_option maxRecDepth 100000
set_option linter.unusedVariables false
set_option linter.unusedSimpArgs false

/-- What lies behind the end. -/
def beU : UInt64 := 13835058055282163719
theorem beU_v : (beU.toNat : Int) = 13835058055282163719 := rfl
/-- Behind i words of the copy. -/
def fillU (W : List UInt64) (i : Nat) : List UInt64 := W.take i ++ List.replicate (W.length + 3 - i) beU
theorem fillU_zero (W : List UInt64) : fillU W 0 = List.replicate (W.length + 3) beU := by simp [fillU]
theorem fillU_all (W : List UInt64) : fillU W W.length = W ++ [beU, beU, beU] := by
  unfold fillU
  rw [List.take_length, show W.length + 3 - W.length = 3 by omega]; rfl
theorem fillU_length {W : List UInt64} {i : Nat} (h : i ≤ W.length) : (fillU W i).length = W.length + 3 := by
  unfold fillU
  rw [List.length_append, List.length_take, List.length_replicate]; omega
theorem fillU_next {W : List UInt64} {i : Nat} {x : UInt64} (h : W[i]? = some x) : (fillU W i).set i x = fillU W (i + 1) := by
  have hi := (List.getElem?_eq_some_iff.1 h).1
  apply List.ext_getElem?
  intro j
  unfold fillU
  by_cases e : i = j
  · subst e
    rw [List.getElem?_set_self (by rw [List.length_append, List.length_take, List.length_replicate]; omega), List.getElem?_append_left (by rw [List.length_take]; omega), List.getElem?_take, if_pos (by omega), h]
  · rw [List.getElem?_set_ne e]
    by_cases hj : j < i
    · rw [List.getElem?_append_left (by rw [List.length_take]; omega), List.getElem?_append_left (by rw [List.length_take]; omega), List.getElem?_take, List.getElem?_take, if_pos hj, if_pos (by omega)]
    · rw [List.getElem?_append_right (by rw [List.length_take]; omega), List.getElem?_append_right (by rw [List.length_take]; omega), List.length_take, List.length_take, List.getElem?_replicate, List.getElem?_replicate, Nat.min_eq_left (by omega), Nat.min_eq_left (by omega)]
      by_cases h2 : j < W.length + 3
      · rw [if_pos (by omega), if_pos (by omega)]
      · rw [if_neg (by omega), if_neg (by omega)]
/-- v' is the copy of v, from block B on. -/
def Cop (B : Nat) (w : World) (v v' : Value) (W : List UInt64) : Prop :=
  (∃ c, v = .slice none 0 c ∧ W = [] ∧ v' = .slice none 0 0) ∨
  (∃ a c g, v = .slice (some a) W.length c ∧ v' = .slice (some ⟨g, 0, none⟩) W.length (W.length + 3) ∧ B ≤ g ∧ Rw w g 58 ((W ++ [beU, beU, beU]).map uv))
theorem Cop.mod {F : Nat → Prop} {B : Nat} {w w' : World} {v v' : Value} {W : List UInt64} (h : Cop B w v v' W) (hm : Mod F w w') (hf : ∀ g, v'.ownBlock = some g → ¬ F g) : Cop B w' v v' W := by
  rcases h with h | ⟨a, c, g, h1, rfl, h3, h4⟩
  · exact .inl h
  · exact .inr ⟨a, c, g, h1, rfl, h3, h4.mod hm (hf g rfl)⟩
theorem Cop.below {B : Nat} {w w' : World} {v v' : Value} {W : List UInt64} (h : Cop B w v v' W) (hb : Below w.heap.size w w') : Cop B w' v v' W := h.mod (F := fun _ => False) (Mod.of_below hb) (fun _ _ => id)
theorem Cop.ou {B : Nat} {w : World} {v v' : Value} {W : List UInt64} (h : Cop B w v v' W) (hl : W.length + 3 ≤ 17592186044416) : OU B w v' W := by
  rcases h with ⟨c, h1, rfl, rfl⟩ | ⟨a, c, g, h1, rfl, h3, h4⟩
  · exact OU.nil_ B w
  · refine ⟨⟨by simp, .inr ⟨g, W.length + 3, ((W ++ [beU, beU, beU]).map uv).toArray, rfl, h3, h4, by omega, by simp only [maxLen]; omega, by simp, ?_⟩⟩, by omega⟩
    rw [Nat.mul_one, List.map_append]
    show ((W.map uv ++ _)).take W.length = _
    rw [List.take_append_of_le_length (by simp), List.take_of_length_le (by simp)]
set_option maxHeartbeats 4000000 in
theorem copied_calls {w : World} {v : Value} {W : List UInt64} (h : RU w v W) (hl : W.length + 3 ≤ 17592186044416) :
    Calls Tryd.prog 19 #[v] w fun e w' => ∃ v', e = .returned v' ∧ Cop w.heap.size w' v v' W ∧ Below w.heap.size w w' := by
  have HR := Lib.hid h
  have hm := uy_made (W.length + 3) (by omega)
  obtain ⟨p, c, hv⟩ := h.form
  have hnil : p = none → W = [] := by
    intro e
    obtain ⟨p', c', e', _, _, _, hr⟩ := h
    rw [hv] at e'
    simp only [Value.slice.injEq] at e'
    obtain ⟨rfl, -, -⟩ := e'
    cases W with
    | nil => rfl
    | cons b r => obtain ⟨g, o, e1, _⟩ := hr 0 b rfl; rw [e] at e1; cases e1
  clear h
  subst hv
  cases p with
  | none =>
    have := hnil rfl
    subst this
    go_enter Tryd.func19, Tryd.ntmps19
    clear hm hnil hl
    go_wp2_with fail
    go_ret
    exact ⟨_, rfl, .inl ⟨c, rfl, rfl, rfl⟩, Below.refl _ _⟩
  | some a =>
    clear hnil
    obtain ⟨L, hL⟩ : ∃ L, L = W.length := ⟨_, rfl⟩
    have HL := Lib.hid hL
    rw [← hL] at hm hl HR ⊢
    clear hL
    have hl2 : (L : Int) + 3 ≤ 17592186044416 := by omega
    have hl0 : (0 : Int) ≤ (L : Int) := Int.natCast_nonneg L
    have hl1 : (L : Int) + 3 = ((L + 3 : Nat) : Int) := by omega
    rw [← hl1] at hm
    replace hm := hm w
    rw [made_cells] at hm
    have hrow0 : Rw (w.alloc (.cells (((List.replicate (L + 3) (0 : UInt64)).map uv).toArray) 58)) w.heap.size 58 ((List.replicate 0 beU ++ (List.replicate (L + 3) (0 : UInt64)).drop 0).map uv) := by
      exact heap_new w (.cells (((List.replicate (L + 3) (0 : UInt64)).map uv).toArray) 58) w.heap.size rfl
    have HROW0 := Lib.hid hrow0
    have HB0 := Lib.hid (below_alloc1 w (.cells (((List.replicate (L + 3) (0 : UInt64)).map uv).toArray) 58))
    have HL3 := Lib.hid hl
    obtain ⟨w0, hw0⟩ : ∃ w0, w0 = w.alloc (.cells (((List.replicate (L + 3) (0 : UInt64)).map uv).toArray) 58) := ⟨_, rfl⟩
    rw [← hw0] at hm HROW0 HB0
    clear hrow0 hw0 hl1
    go_enter Tryd.func19, Tryd.ntmps19
    go_wp2_with fail
    refine wp_loop_count (fun i a' w' => Is (fun U => ⟨#[.slice (some a) L c, U 1, U 2, .slice (some ⟨w.heap.size, 0, none⟩) (L + 3) (L + 3), .int .i64 i, U 5, U 6, U 7, U 8, U 9, U 10, U 11, U 12, U 13, U 14, U 15, U 16, U 17, U 18, U 19, U 20, U 21, U 22, U 23, U 24, U 25, U 26, U 27, U 28, U 29, U 30, U 31, U 32, U 33, U 34, U 35, U 36, U 37], []⟩) a' ∧ Rw w' w.heap.size 58 ((List.replicate i beU ++ (List.replicate (L + 3) (0 : UInt64)).drop i).map uv) ∧ Below w.heap.size w w') (L + 3) ⟨isU (fun U => ⟨#[.slice (some a) L c, U 1, U 2, .slice (some ⟨w.heap.size, 0, none⟩) (L + 3) (L + 3), .int .i64 0, U 5, U 6, U 7, U 8, U 9, U 10, U 11, U 12, U 13, U 14, U 15, U 16, U 17, U 18, U 19, U 20, U 21, U 22, U 23, U 24, U 25, U 26, U 27, U 28, U 29, U 30, U 31, U 32, U 33, U 34, U 35, U 36, U 37], []⟩) rfl, HROW0.out, HB0.out⟩ ?_ ?_
    · rintro i a' w' hi ⟨hU, hrow, hb⟩
      obtain ⟨U, rfl⟩ := hU.out
      have hset := hrow.set i (uv beU)
      rw [← List.map_set, rep_set _ _ (by simpa using hi)] at hset
      have hc0 : w'.cell? ⟨w.heap.size, i, none⟩ = some (uv 0) := hrow.cell (by
        rw [List.getElem?_map, List.getElem?_append_right (by simp), List.length_replicate, Nat.sub_self, List.getElem?_drop, List.getElem?_replicate, if_pos (by omega)]; rfl)
      have hf0 := hrow.frozen i
      have hbe : Below w.heap.size w (w'.setCell ⟨w.heap.size, i, none⟩ (uv beU)) := hb.setCell (p := ⟨w.heap.size, i, none⟩) (Nat.le_refl _) _
      have HS := Lib.hid hset
      have HB := Lib.hid hbe
      have hi' : (i : Int) < (L : Int) + 3 := by exact_mod_cast hi
      have hi0 : (0 : Int) ≤ (i : Int) := Int.natCast_nonneg i
      clear hm hU hrow hset hb hbe
      go_wp2_with fail
      exact ⟨isU (fun U => ⟨#[.slice (some a) L c, U 1, U 2, .slice (some ⟨w.heap.size, 0, none⟩) (L + 3) (L + 3), .int .i64 (i + 1 : Nat), U 5, U 6, U 7, U 8, U 9, U 10, U 11, U 12, U 13, U 14, U 15, U 16, U 17, U 18, U 19, U 20, U 21, U 22, U 23, U 24, U 25, U 26, U 27, U 28, U 29, U 30, U 31, U 32, U 33, U 34, U 35, U 36, U 37], []⟩) rfl, HS.out, HB.out⟩
    · rintro a' w' ⟨hU, hrow, hb⟩
      obtain ⟨U, rfl⟩ := hU.out
      have hd : List.replicate (L + 3) beU ++ (List.replicate (L + 3) (0 : UInt64)).drop (L + 3) = fillU W 0 := by rw [fillU_zero, ← HL.out, List.drop_of_length_le (by simp), List.append_nil]
      rw [hd] at hrow
      have HROW := Lib.hid hrow
      have HB := Lib.hid hb
      clear hm hU hrow hb hd
      go_wp2_with fail
      refine wp_loop_count (fun i a' w' => Is (fun U => ⟨#[.slice (some a) L c, U 1, U 2, .slice (some ⟨w.heap.size, 0, none⟩) (L + 3) (L + 3), U 4, .int .i64 i, U 6, U 7, U 8, U 9, U 10, U 11, U 12, U 13, U 14, U 15, U 16, U 17, U 18, U 19, U 20, U 21, U 22, U 23, U 24, U 25, U 26, U 27, U 28, U 29, U 30, U 31, U 32, U 33, U 34, U 35, U 36, U 37], []⟩) a' ∧ Rw w' w.heap.size 58 ((fillU W i).map uv) ∧ Below w.heap.size w w') L ⟨isU (fun U => ⟨#[.slice (some a) L c, U 1, U 2, .slice (some ⟨w.heap.size, 0, none⟩) (L + 3) (L + 3), U 4, .int .i64 0, U 6, U 7, U 8, U 9, U 10, U 11, U 12, U 13, U 14, U 15, U 16, U 17, U 18, U 19, U 20, U 21, U 22, U 23, U 24, U 25, U 26, U 27, U 28, U 29, U 30, U 31, U 32, U 33, U 34, U 35, U 36, U 37], []⟩) rfl, HROW.out, HB.out⟩ ?_ ?_
      · rintro i a' w' hi ⟨hU, hrow, hb⟩
        obtain ⟨U, rfl⟩ := hU.out
        obtain ⟨x, hx⟩ : ∃ x, W[i]? = some x := ⟨_, List.getElem?_eq_getElem (by rw [← HL.out]; exact hi)⟩
        obtain ⟨p', c', e', _, _, _, hr⟩ := HR.out
        simp only [Value.slice.injEq] at e'
        obtain ⟨rfl, -, -⟩ := e'
        obtain ⟨g, o, e, hg, hcell⟩ := hr _ _ hx
        injection e with e
        subst e
        have hcell' := ((bcell hb).1 g _ hg).trans hcell
        have hset := hrow.set i (uv x)
        rw [← List.map_set, fillU_next hx] at hset
        obtain ⟨z, hz⟩ : ∃ z, (fillU W i)[i]? = some z := ⟨_, List.getElem?_eq_getElem (by rw [fillU_length (by have := HL.out; omega)]; have := HL.out; omega)⟩
        have hc0 : w'.cell? ⟨w.heap.size, i, none⟩ = some (uv z) := hrow.cell (by rw [List.getElem?_map, hz]; rfl)
        have hf0 := hrow.frozen i
        have hbe : Below w.heap.size w (w'.setCell ⟨w.heap.size, i, none⟩ (uv x)) := hb.setCell (p := ⟨w.heap.size, i, none⟩) (Nat.le_refl _) _
        have HS := Lib.hid hset
        have HB := Lib.hid hbe
        have hi' : (i : Int) < (L : Int) := by exact_mod_cast hi
        have hi3 : (i : Int) < (L : Int) + 3 := by omega
        have hi0 : (0 : Int) ≤ (i : Int) := Int.natCast_nonneg i
        clear hU hrow hset hb hbe hr hx hz hcell
        go_wp2_with fail
        exact ⟨isU (fun U => ⟨#[.slice (some ⟨g, o, none⟩) L c, U 1, U 2, .slice (some ⟨w.heap.size, 0, none⟩) (L + 3) (L + 3), U 4, .int .i64 (i + 1 : Nat), U 6, U 7, U 8, U 9, U 10, U 11, U 12, U 13, U 14, U 15, U 16, U 17, U 18, U 19, U 20, U 21, U 22, U 23, U 24, U 25, U 26, U 27, U 28, U 29, U 30, U 31, U 32, U 33, U 34, U 35, U 36, U 37], []⟩) rfl, HS.out, HB.out⟩
      · rintro a' w' ⟨hU, hrow, hb⟩
        obtain ⟨U, rfl⟩ := hU.out
        have HROW := Lib.hid hrow
        have HB := Lib.hid hb
        clear hU hrow hb
        go_wp2_with fail
        go_ret
        refine ⟨.slice (some ⟨w.heap.size, 0, none⟩) L (L + 3), rfl, .inr ⟨a, c, w.heap.size, ?_, ?_, Nat.le_refl _, ?_⟩, HB.out⟩
        · rw [HL.out]
        · rw [HL.out]
        · have := HROW.out
          rwa [HL.out, fillU_all] at this
set_option maxHeartbeats 4000000 in
theorem sameWords_calls {w : World} {va vb : Value} {l : List UInt64} (h : RU w va l) (h' : RU w vb l) : Pur Tryd.prog 22 #[va, vb] w (.bool true) := by
  unfold Pur
  obtain ⟨p, c, rfl, h1, h2, h3, hr⟩ := h
  obtain ⟨p', c', rfl, h1', h2', h3', hr'⟩ := h'
  go_enter Tryd.func22, Tryd.ntmps22
  go_wp2_with fail
  refine wp_loop_count (fun i a w' => (∃ U : Nat → Value, a = ⟨#[.slice p l.length c, .slice p' l.length c', U 2, U 3, .bool false, .int .i64 i, U 6, U 7, U 8, U 9, U 10, U 11, U 12, U 13, U 14, U 15, U 16, U 17, U 18, U 19, U 20, U 21, U 22, U 23, U 24, U 25], []⟩) ∧ Below w.heap.size w w') l.length ⟨exU (fun U => ⟨#[.slice p l.length c, .slice p' l.length c', U 2, U 3, .bool false, .int .i64 0, U 6, U 7, U 8, U 9, U 10, U 11, U 12, U 13, U 14, U 15, U 16, U 17, U 18, U 19, U 20, U 21, U 22, U 23, U 24, U 25], []⟩) rfl, Below.refl _ _⟩ ?_ ?_
  · rintro i a w' hi ⟨⟨U, rfl⟩, hb⟩
    obtain ⟨b, hlb⟩ : ∃ b, l[i]? = some b := ⟨l[i], List.getElem?_eq_getElem hi⟩
    obtain ⟨g, o, rfl, hg, hcell⟩ := hr i b hlb
    obtain ⟨g', o', rfl, hg', hcell'⟩ := hr' i b hlb
    have hgw : g < w'.heap.size := Nat.lt_of_lt_of_le hg hb.size
    have hgw' : g' < w'.heap.size := Nat.lt_of_lt_of_le hg' hb.size
    replace hcell := ((bcell hb).1 g (o + i) hg).trans hcell
    replace hcell' := ((bcell hb).1 g' (o' + i) hg').trans hcell'
    have hi' : (i : Int) < (l.length : Int) := by exact_mod_cast hi
    have hi0 : (0 : Int) ≤ (i : Int) := Int.natCast_nonneg i
    clear hr hr' hlb
    go_wp2_with fail
    refine wp_region_here (by kernel_rfl) (by kernel_rfl) ?_
    (repeat (first | (apply wpR_pass rfl; (try simp only [Act.put, List.setIfInBounds_toArray, List.set_cons_succ, List.set_cons_zero])) | (apply wpR_val rfl; (focus (intro w1 hR; obtain ⟨hc, hf⟩ := bcellB hR; (try go_simp); (try exact Eq.refl _); done)); (try simp only [Act.put, List.setIfInBounds_toArray, List.set_cons_succ, List.set_cons_zero])) | (apply wpR_call rfl; (focus (intro w1 hR; obtain ⟨hc, hf⟩ := bcellB hR; (try go_simp); (try exact And.intro rfl rfl); done)); (focus (intro w1 hR; first | exact ().at_ (by first | omega | (simp; done) | (simp; omega)) hR)); (try simp only [Act.put, List.setIfInBounds_toArray, List.set_cons_succ, List.set_cons_zero])) | (apply wpR_val_want rfl; (focus (intro w1 hR; obtain ⟨hc, hf⟩ := bcellB hR; (try go_simp); (try exact Eq.refl _); done)); (try simp only [Act.put, List.setIfInBounds_toArray, List.set_cons_succ, List.set_cons_zero])) | (apply wpR_call_want rfl; (focus (intro w1 hR; obtain ⟨hc, hf⟩ := bcellB hR; (try go_simp); (try exact And.intro rfl rfl); done)); (focus (intro w1 hR; first | exact ().at_ (by first | omega | (simp; done) | (simp; omega)) hR)); (try simp only [Act.put, List.setIfInBounds_toArray, List.set_cons_succ, List.set_cons_zero]))))
    refine wpR_nil (fun w2 hb2 => ?_)
    go_wp2_with fail
    exact ⟨exU (fun U => ⟨#[.slice (some ⟨g, o, none⟩) l.length c, .slice (some ⟨g', o', none⟩) l.length c', U 2, U 3, .bool false, .int .i64 (i + 1 : Nat), U 6, U 7, U 8, U 9, U 10, U 11, U 12, U 13, U 14, U 15, U 16, U 17, U 18, U 19, U 20, U 21, U 22, U 23, U 24, U 25], []⟩) rfl, hb.trans (hb2.mono hb.size)⟩
  · rintro a w' ⟨⟨U, rfl⟩, hb⟩
    go_wp2_with fail
    go_ret
    exact ⟨rfl, hb⟩
theorem Cop.ru {B : Nat} {w : World} {v v' : Value} {W : List UInt64} (h : Cop B w v v' W) (hl : W.length + 3 ≤ 17592186044416) : RU w v' W := (h.ou hl).ru
set_option maxHeartbeats 4000000 in
theorem intact_calls {w : World} {B : Nat} {va vi : Value} {W : List UInt64} (hc : Cop B w va vi W) (h : RU w va W) (hl : W.length + 3 ≤ 17592186044416) : Pur Tryd.prog 25 #[vi, va] w (.bool true) := by
  unfold Pur
  have hs := sameWords_calls (hc.ru hl) h
  have HL := Lib.hid hl
  rcases hc with ⟨c, rfl, rfl, rfl⟩ | ⟨a, c, g, rfl, rfl, h3, h4⟩
  · clear hl
    go_enter Tryd.func25, Tryd.ntmps25
    go_wp2_with (first | (go_at_call 22; refine hs.out.mono ?_; rintro e w1 ⟨rfl, hb1⟩) | fail)
    go_ret
    exact ⟨rfl, hb1⟩
  · have H4 := Lib.hid h4
    have lg := heap_lt h4
    obtain ⟨L, hL⟩ : ∃ L, L = W.length := ⟨_, rfl⟩
    have HLL := Lib.hid hL
    rw [← hL] at hl hs ⊢
    have hl2 : (L : Int) + 3 ≤ 17592186044416 := by omega
    have hl0 : (0 : Int) ≤ (L : Int) := Int.natCast_nonneg L
    clear hL h4 h
    go_enter Tryd.func25, Tryd.ntmps25
    go_wp2_with (first | (go_at_call 22; refine hs.out.mono ?_; rintro e w1 ⟨rfl, hb1⟩) | fail)
    have FRM : True := trivial
    refine wp_loop_count (fun j a' w' => (∃ U : Nat → Value, a' = ⟨#[.slice (some ⟨g, 0, none⟩) L (L + 3), .slice (some a) L c, U 2, U 3, .bool false, .bool true, .slice (some ⟨g, 0, none⟩) (L + 3) (L + 3), .int .i64 ((L + j : Nat) : Int), U 8, U 9, U 10, U 11, U 12, U 13, U 14, U 15, U 16, U 17, U 18, U 19, U 20, U 21, U 22, U 23, U 24, U 25, U 26, U 27, U 28, U 29, U 30, U 31, U 32, U 33, U 34, U 35], []⟩) ∧ Below w.heap.size w w') 3 ⟨exU (fun U => ⟨#[.slice (some ⟨g, 0, none⟩) L (L + 3), .slice (some a) L c, U 2, U 3, .bool false, .bool true, .slice (some ⟨g, 0, none⟩) (L + 3) (L + 3), .int .i64 ((L + 0 : Nat) : Int), U 8, U 9, U 10, U 11, U 12, U 13, U 14, U 15, U 16, U 17, U 18, U 19, U 20, U 21, U 22, U 23, U 24, U 25, U 26, U 27, U 28, U 29, U 30, U 31, U 32, U 33, U 34, U 35], []⟩) rfl, hb1⟩ ?_ ?_
    · rintro j a' w' hj ⟨⟨U, rfl⟩, hb⟩
      have hcell : w'.cell? ⟨g, L + j, none⟩ = some (uv beU) := ((bcell hb).1 g (L + j) lg).trans (H4.out.cell (by
        rw [List.getElem?_map, List.getElem?_append_right (by have := HLL.out; omega), ← HLL.out, Nat.add_sub_cancel_left]
        match j, hj with
        | 0, _ => rfl
        | 1, _ => rfl
        | 2, _ => rfl))
      obtain ⟨k, hk⟩ : ∃ k, k = L + j := ⟨_, rfl⟩
      rw [← hk] at hcell ⊢
      have hk1 : (k : Int) < (L : Int) + 3 := by omega
      have hk0 : (0 : Int) ≤ (k : Int) := Int.natCast_nonneg k
      have HK : Hid (((L + (j + 1) : Nat) : Int) = (k : Int) + 1) := Lib.hid (by omega)
      have hcell2 : w'.cell? ⟨g, k, none⟩ = some (.int .u64 13835058055282163719) := hcell
      clear hk hj hb1 hcell
      go_wp2_with fail
      refine ⟨?_, hb⟩
      rw [HK.out]
      exact exU (fun U => ⟨#[.slice (some ⟨g, 0, none⟩) L (L + 3), .slice (some a) L c, U 2, U 3, .bool false, .bool true, .slice (some ⟨g, 0, none⟩) (L + 3) (L + 3), .int .i64 ((k : Int) + 1), U 8, U 9, U 10, U 11, U 12, U 13, U 14, U 15, U 16, U 17, U 18, U 19, U 20, U 21, U 22, U 23, U 24, U 25, U 26, U 27, U 28, U 29, U 30, U 31, U 32, U 33, U 34, U 35], []⟩) rfl
    · rintro a' w' ⟨⟨U, rfl⟩, hb⟩
      clear hb1
      obtain ⟨k, hk⟩ : ∃ k, k = L + 3 := ⟨_, rfl⟩
      rw [← hk]
      clear hs hl hl2
      go_wp2_with fail
      go_ret
      exact ⟨rfl, hb⟩
end Go.Proofs.YtckbckdaffdjmaaDoor

/- The Book, seen from outside; what makes bitmaps, whatever comes of it; the pair. -/
namespace Go.Proofs.YtckbckdaffdjmaaDoor
open Go.RowKit
set_option maxRecDepth 100000
set_option linter.unusedVariables false
set_option linter.unusedSimpArgs false

/-- A Book lies at b; own: the blocks that it knows of; at most N lists. -/
def Bok (w : World) (b : Nat) (own : Nat → Prop) (late : Bool) (N : Nat) : Prop :=
  ∃ ow N0 N2, Bkk w b ow late 0 N0 N2 ∧ (∀ k, own k ↔ ow k ≠ 0) ∧ N0 + 2 * N2 ≤ N ∧ (late = false → N2 = 0) ∧ (late = true → N0 = 0)
theorem Bok.lt {w : World} {b N : Nat} {own : Nat → Prop} {late : Bool} (h : Bok w b own late N) : ∀ k, own k → k < w.heap.size := by
  obtain ⟨ow, N0, N2, ⟨v0, v2, v3, K0, K2, K3, Ws, hb, _, _⟩, ho, _⟩ := h
  intro k hk
  rcases Nat.lt_or_ge k w.heap.size with h | h
  · exact h
  · exact absurd (hb.hi k h) ((ho k).1 hk)
theorem Bok.at_ {w : World} {b N : Nat} {own : Nat → Prop} {late : Bool} (h : Bok w b own late N) : own b := by
  obtain ⟨ow, N0, N2, ⟨v0, v2, v3, K0, K2, K3, Ws, hb, _, _⟩, ho, _⟩ := h
  exact (ho b).2 (by rw [hb.tb]; decide)
theorem Bok.mod {w w' : World} {b N : Nat} {own F : Nat → Prop} {late : Bool} (h : Bok w b own late N) (hm : Mod F w w') (hF : ∀ k, k < w.heap.size → F k → ¬ own k) : Bok w' b own late N := by
  obtain ⟨ow, N0, N2, h1, ho, hn, hl⟩ := h
  refine ⟨ow, N0, N2, h1.mod hm fun k hk hf => ?_, ho, hn, hl⟩
  have := hF k hk hf
  rw [ho] at this
  exact Decidable.not_not.1 this
theorem Bok.below {w w' : World} {b N : Nat} {own : Nat → Prop} {late : Bool} (h : Bok w b own late N) (hb : Below w.heap.size w w') : Bok w' b own late N := h.mod (F := fun _ => False) (Mod.of_below hb) (fun _ _ e => e.elim)
theorem Bok.more {w : World} {b N M : Nat} {own : Nat → Prop} {late : Bool} (h : Bok w b own late N) (hM : N ≤ M) : Bok w b own late M := by
  obtain ⟨ow, N0, N2, h1, ho, hn, hl⟩ := h
  exact ⟨ow, N0, N2, h1, ho, by omega, hl⟩
/-- What keep does. -/
structure KeepC (late : Bool) : Prop where
  run : ∀ {w : World} {b N : Nat} {own : Nat → Prop} {x : Value} {l : List UInt64}, Bok w b own late N → OU 0 w x l → l.length + 80 ≤ 17592186044416 → (∀ g, x.ownBlock = some g → ¬ own g) → N + 2 ≤ 5864062014805 →
  Calls Tryd.prog 23 #[.pointer (some ⟨b, 0, none⟩), x] w fun e w' => e = .returned (.tuple #[]) ∧ ∃ own', Bok w' b own' late (N + 2) ∧ (∀ k, k < w.heap.size → (own' k ↔ own k ∨ x.ownBlock = some k)) ∧ Mod (fun k => own k ∨ x.ownBlock = some k) w w'
theorem Bkk.zero {w : World} {b cur N0 N2 : Nat} {own : Nat → Nat} (h : Bkk w b own false cur N0 N2) (h2 : N2 = 0) : Bkk w b own false 0 N0 N2 := by
  obtain ⟨v0, v2, v3, K0, K2, K3, Ws, hb, h0, hN⟩ := h
  have hk : K2 = [] := List.eq_nil_of_length_eq_zero (hN.trans h2)
  have hw : Ws = [] := List.eq_nil_of_length_eq_zero (by rw [← hb.l2, hk]; rfl)
  subst hk hw
  exact ⟨v0, v2, v3, K0, [], K3, [], ⟨hb.blk, hb.r0, hb.r2, hb.r3, hb.tb, hb.t0, hb.t2, hb.t3, hb.even, hb.marked, hb.l2, hb.l3, fun i v l _ e => (by simp at e), fun i v l _ _ e => (by simp at e), hb.hi⟩, h0, hN⟩
theorem keepC_now : KeepC false := by
  constructor
  intro w b N own x l h hx hl hf hN
  obtain ⟨ow, N0, N2, h1, ho, hn, h2, -⟩ := h
  refine (keep_now h1 (by omega) hx hl fun g e => .inl ?_).mono ?_
  · have := hf g e
    rw [ho] at this
    exact Decidable.not_not.1 this
  · rintro e w' ⟨rfl, ow', hk, hlow, hm⟩
    refine ⟨rfl, fun k => ow' k ≠ 0, ⟨ow', N0 + 2, N2, hk.zero (h2 rfl), fun k => Iff.rfl, by omega, h2, fun e => by cases e⟩, fun k hkk => ?_, hm.mono fun k _ e => ?_⟩
    · show ow' k ≠ 0 ↔ _
      rw [hlow k hkk, ho]
      by_cases e : x.ownBlock = some k
      · simp [e]
      · simp [e]
    · rw [ho]; exact e
theorem Bok.new {w : World} {b : Nat} {late : Bool} (h : Rw w b 31 [.slice none 0 0, .bool late, .slice none 0 0, .slice none 0 0]) : Bok w b (fun k => k = b) late 0 :=
  ⟨_, 0, 0, Bkk.new h, fun k => by by_cases e : k = b <;> simp [e], Nat.le_refl _, fun _ => rfl, fun _ => rfl⟩

namespace Bm
/-- The errors of New and From. -/
def errN (n : Int) : Nat := if n < 1 ∨ 65536 < n then 1 else 0
def errF (n : Int) (V : List UInt64) : Nat := if n < 1 ∨ 65536 < n then 1 else validE n.toNat V
end Bm
/-- A bitmap or none. -/
def GotB (w w' : World) (q : Option Addr) (er : Nat) (n : Int) (W : List UInt64) : Prop :=
  (er ≠ 0 ∧ q = none) ∨ (er = 0 ∧ ∃ p bw ba, q = some ⟨p, 0, none⟩ ∧ BM w' p bw ba n.toNat W ∧ w.heap.size ≤ p ∧ w.heap.size ≤ bw ∧ w.heap.size ≤ ba)
def GotR (w w' : World) (q : Option Addr) (er : Nat) (bs : List Bool) : Prop :=
  (er ≠ 0 ∧ q = none) ∨ (er = 0 ∧ ∃ r bb, q = some ⟨r, 0, none⟩ ∧ RM w' r bb bs ∧ w.heap.size ≤ r ∧ w.heap.size ≤ bb)
section
variable {w : World} {n : Int} {v : Value} {V : List UInt64}
theorem new_any (hn : (Lit.int .i64 n).wf = true) : Calls Tryd.prog 56 #[.int .i64 n] w fun e w' => ∃ q, e = .returned (.tuple #[.pointer q, .int .i64 (Bm.errN n : Nat)]) ∧ GotB w w' q (Bm.errN n) n (List.replicate (Bm.room n.toNat) 0) ∧ Below w.heap.size w w' := by
  unfold Bm.errN
  by_cases h : n < 1 ∨ 65536 < n
  · rw [if_pos h]
    exact (new_err hn h).out.mono fun e w' ⟨he, hb⟩ => ⟨none, he, .inl ⟨by decide, rfl⟩, hb⟩
  · rw [if_neg h]
    obtain ⟨m, rfl⟩ : ∃ m : Nat, n = m := ⟨n.toNat, by omega⟩
    exact (new_calls (w := w) (n := m) (by omega) (by omega)).mono fun e w' ⟨p, bw, ba, he, hm, h1, h2, h3, hb⟩ => ⟨_, he, .inr ⟨rfl, p, bw, ba, rfl, hm, h1, h2, h3⟩, hb⟩
theorem rnew_any (hn : (Lit.int .i64 n).wf = true) : Calls Tryd.prog 57 #[.int .i64 n] w fun e w' => ∃ q, e = .returned (.tuple #[.pointer q, .int .i64 (Bm.errN n : Nat)]) ∧ GotR w w' q (Bm.errN n) (List.replicate n.toNat false) ∧ Below w.heap.size w w' := by
  unfold Bm.errN
  by_cases h : n < 1 ∨ 65536 < n
  · rw [if_pos h]
    exact (rnew_err hn h).out.mono fun e w' ⟨he, hb⟩ => ⟨none, he, .inl ⟨by decide, rfl⟩, hb⟩
  · rw [if_neg h]
    obtain ⟨m, rfl⟩ : ∃ m : Nat, n = m := ⟨n.toNat, by omega⟩
    exact (rnew_calls (w := w) (n := m) (by omega) (by omega)).mono fun e w' ⟨r, bb, he, hm, h1, h2, hb⟩ => ⟨_, he, .inr ⟨rfl, r, bb, rfl, hm, h1, h2⟩, hb⟩
theorem from_any (hn : (Lit.int .i64 n).wf = true) (hv : RU w v V) : Calls Tryd.prog 54 #[.int .i64 n, v] w fun e w' => ∃ q, e = .returned (.tuple #[.pointer q, .int .i64 (Bm.errF n V : Nat)]) ∧ GotB w w' q (Bm.errF n V) n V ∧ Below w.heap.size w w' := by
  unfold Bm.errF
  by_cases h : n < 1 ∨ 65536 < n
  · rw [if_pos h]
    exact (from_err1 hn v h).out.mono fun e w' ⟨he, hb⟩ => ⟨none, he, .inl ⟨by decide, rfl⟩, hb⟩
  · rw [if_neg h]
    obtain ⟨m, rfl⟩ : ∃ m : Nat, n = m := ⟨n.toNat, by omega⟩
    rw [Int.toNat_natCast]
    by_cases he : Bm.validE m V = 0
    · rw [he]
      exact (from_calls hv (Bm.ok_of_valid (by omega) (by omega) he)).mono fun e w' ⟨p, bw, ba, he, hm, h1, h2, h3, hb⟩ => ⟨_, he, .inr ⟨rfl, p, bw, ba, rfl, hm, h1, h2, h3⟩, hb⟩
    · exact (from_err2 (by omega) (by omega) hv he).out.mono fun e w' ⟨h1, hb⟩ => ⟨none, h1, .inl ⟨he, rfl⟩, hb⟩
theorem rfrom_any (hn : (Lit.int .i64 n).wf = true) (hv : RU w v V) : Calls Tryd.prog 55 #[.int .i64 n, v] w fun e w' => ∃ q, e = .returned (.tuple #[.pointer q, .int .i64 (Bm.errF n V : Nat)]) ∧ GotR w w' q (Bm.errF n V) (Bm.bools n.toNat V) ∧ Below w.heap.size w w' := by
  unfold Bm.errF
  by_cases h : n < 1 ∨ 65536 < n
  · rw [if_pos h]
    exact (rfrom_err1 hn v h).out.mono fun e w' ⟨he, hb⟩ => ⟨none, he, .inl ⟨by decide, rfl⟩, hb⟩
  · rw [if_neg h]
    obtain ⟨m, rfl⟩ : ∃ m : Nat, n = m := ⟨n.toNat, by omega⟩
    rw [Int.toNat_natCast]
    by_cases he : Bm.validE m V = 0
    · rw [he]
      exact (rfrom_calls hv (Bm.ok_of_valid (by omega) (by omega) he)).mono fun e w' ⟨r, bb, he, hm, h1, h2, hb⟩ => ⟨_, he, .inr ⟨rfl, r, bb, rfl, hm, h1, h2⟩, hb⟩
    · exact (rfrom_err2 (by omega) (by omega) hv he).out.mono fun e w' ⟨h1, hb⟩ => ⟨none, h1, .inl ⟨he, rfl⟩, hb⟩
end
/-- The pair of bitmaps. -/
structure Pr (w : World) (P p bw ba r bb b n : Nat) (W : List UInt64) : Prop where
  hP : Rw w P 35 [.pointer (some ⟨p, 0, none⟩), .pointer (some ⟨r, 0, none⟩), .pointer (some ⟨b, 0, none⟩)]
  hm : BM w p bw ba n W
  hr : RM w r bb (Bm.bools n W)
  dP : P ≠ p ∧ P ≠ bw ∧ P ≠ ba ∧ P ≠ r ∧ P ≠ bb
  dr : r ≠ p ∧ r ≠ bw ∧ r ≠ ba
  db : bb ≠ p ∧ bb ≠ bw ∧ bb ≠ ba
def Pr.At (P p bw ba r bb : Nat) (k : Nat) : Prop := k = P ∨ k = p ∨ k = bw ∨ k = ba ∨ k = r ∨ k = bb
theorem Pr.mod {F : Nat → Prop} {w w' : World} {P p bw ba r bb b n : Nat} {W : List UInt64} (h : Pr w P p bw ba r bb b n W) (hm : Mod F w w') (hF : ∀ k, Pr.At P p bw ba r bb k → ¬ F k) : Pr w' P p bw ba r bb b n W :=
  ⟨h.hP.mod hm (hF _ (.inl rfl)), h.hm.mod hm (hF _ (.inr (.inl rfl))) (hF _ (.inr (.inr (.inl rfl)))) (hF _ (.inr (.inr (.inr (.inl rfl))))), h.hr.mod hm (hF _ (.inr (.inr (.inr (.inr (.inl rfl)))))) (hF _ (.inr (.inr (.inr (.inr (.inr rfl)))))), h.dP, h.dr, h.db⟩
theorem Pr.below {w w' : World} {P p bw ba r bb b n : Nat} {W : List UInt64} (h : Pr w P p bw ba r bb b n W) (hb : Below w.heap.size w w') : Pr w' P p bw ba r bb b n W := h.mod (F := fun _ => False) (Mod.of_below hb) (fun _ _ => id)
theorem Pr.lt {w : World} {P p bw ba r bb b n : Nat} {W : List UInt64} (h : Pr w P p bw ba r bb b n W) : ∀ k, Pr.At P p bw ba r bb k → k < w.heap.size := by
  rintro k (rfl | rfl | rfl | rfl | rfl | rfl)
  · exact heap_lt h.hP
  · exact heap_lt h.hm.hs
  · exact heap_lt h.hm.hw
  · exact heap_lt h.hm.ha
  · exact heap_lt h.hr.hs
  · exact heap_lt h.hr.hb
end Go.Proofs.YtckbckdaffdjmaaDoor

/- made: both bitmaps, or neither. -/
namespace Go.Proofs.YtckbckdaffdjmaaDoor
open Go.RowKit
set_option maxRecDepth 100000
set_option linter.unusedVariables false
set_option linter.unusedSimpArgs false

/-- What made leaves at P. -/
def MadeP (w w' : World) (P b : Nat) (own' : Nat → Prop) : Prop :=
  w.heap.size ≤ P ∧ ¬ own' P ∧ (Rw w' P 35 [.pointer none, .pointer none, .pointer (some ⟨b, 0, none⟩)] ∨
    ∃ p bw ba r bb n W, Pr w' P p bw ba r bb b n W ∧ ∀ k, Pr.At P p bw ba r bb k → w.heap.size ≤ k ∧ ¬ own' k)
theorem MadeP.below {w w1 w' : World} {P b : Nat} {own' : Nat → Prop} (h : MadeP w w1 P b own') (hb : Below w1.heap.size w1 w') : MadeP w w' P b own' := by
  obtain ⟨h1, h2, h | ⟨p, bw, ba, r, bb, n, W, h3, h4⟩⟩ := h
  · exact ⟨h1, h2, .inl (h.below hb)⟩
  · exact ⟨h1, h2, .inr ⟨p, bw, ba, r, bb, n, W, h3.below hb, h4⟩⟩
theorem below_drewN (w : World) : ∀ k, Below w.heap.size w (w.drewN k)
  | 0 => Below.refl _ _
  | k + 1 => (below_drewN w k).drew
theorem made_post {w w1 w2 w3 w' : World} {P b : Nat} {own' : Nat → Prop} {q q' : Option Addr} {er : Nat} {n : Int} {W : List UInt64}
    (hq : GotB w1 w2 q er n W) (hq' : GotR w2 w3 q' er (Bm.bools n.toNat W)) (hs : w.heap.size ≤ P) (hP : P < w1.heap.size) (hs2 : w1.heap.size ≤ w2.heap.size)
    {F G : Nat → Prop} (hm2 : Mod F w2 w') (hm3 : Mod G w3 w') (hF : ∀ k, k < w2.heap.size → w1.heap.size ≤ k → ¬ F k) (hG : ∀ k, k < w3.heap.size → w2.heap.size ≤ k → ¬ G k)
    (hb : Rw w' P 35 [.pointer q, .pointer q', .pointer (some ⟨b, 0, none⟩)]) (hoP : ¬ own' P) (ho : ∀ k, w1.heap.size ≤ k → k < w3.heap.size → ¬ own' k) :
    MadeP w w' P b own' ∧ q.isNone = q'.isNone := by
  rcases hq with ⟨he, rfl⟩ | ⟨he, p, bw, ba, rfl, hm, h1, h2, h3⟩
  · rcases hq' with ⟨he', rfl⟩ | ⟨he', _⟩
    · exact ⟨⟨hs, hoP, .inl hb⟩, rfl⟩
    · exact absurd he' he
  · rcases hq' with ⟨he', rfl⟩ | ⟨he', r, bb, rfl, hr, h4, h5⟩
    · exact absurd he he'
    · have l1 := heap_lt hm.hs
      have l2 := heap_lt hm.hw
      have l3 := heap_lt hm.ha
      have l4 := heap_lt hr.hs
      have l5 := heap_lt hr.hb
      refine ⟨⟨hs, hoP, .inr ⟨p, bw, ba, r, bb, n.toNat, W, ⟨hb, hm.mod hm2 (hF _ l1 h1) (hF _ l2 h2) (hF _ l3 h3), hr.mod hm3 (hG _ l4 h4) (hG _ l5 h5), by omega, by omega, by omega⟩, ?_⟩⟩, rfl⟩
      rintro k (rfl | rfl | rfl | rfl | rfl | rfl)
      · exact ⟨hs, hoP⟩
      all_goals exact ⟨by omega, ho _ (by omega) (by omega)⟩
/-- The argument and the pair, just boxed. -/
theorem boxed (w : World) (fr : Bool) (n : Int) (xv : Value) (b : Nat) : ∃ w0 A P, w0 = (w.alloc (.cells #[.bool fr, .int .i64 n, xv] 24)).alloc (.cells #[.pointer none, .pointer none, .pointer (some ⟨b, 0, none⟩)] 35) ∧ A = w.heap.size ∧ P = w.heap.size + 1 ∧
    Rw w0 A 24 [.bool fr, .int .i64 n, xv] ∧ Rw w0 P 35 [.pointer none, .pointer none, .pointer (some ⟨b, 0, none⟩)] ∧ Below w.heap.size w w0 ∧ P < w0.heap.size := by
  refine ⟨_, _, _, rfl, rfl, rfl, (heap_old _ _ _ (by simp)).trans (heap_new _ _ _ rfl), heap_new _ _ _ (by simp), (below_alloc1 _ _).alloc (by simp) _, by simp⟩
set_option maxHeartbeats 4000000 in
theorem made_new {w : World} {b N : Nat} {own : Nat → Prop} {late : Bool} (hb : Bok w b own late N) {n : Int} (hn : (Lit.int .i64 n).wf = true) {xv : Value} {V : List UInt64} (hx : RU w xv V) :
    Calls Tryd.prog 17 #[.agg #[.bool false, .int .i64 n, xv], .pointer (some ⟨b, 0, none⟩)] w fun e w' => ∃ P own', e = .returned (.tuple #[.pointer (some ⟨P, 0, none⟩), .bool true]) ∧ MadeP w w' P b own' ∧ Bok w' b own' late (N + 2) ∧ (∀ k, k < w.heap.size → (own' k ↔ own k)) ∧ Mod own w w' := by
  have HB := Lib.hid hb
  obtain ⟨q, c, hxe⟩ := hx.form
  obtain ⟨L, hL⟩ : ∃ L, L = V.length := ⟨_, rfl⟩
  rw [← hL] at hxe
  clear hx hb hL
  subst hxe
  obtain ⟨w0, A, P, hw0, hA, hP, hra, hrp, hb0, hPl⟩ := boxed w false n (.slice q L c) b
  have HBX := Lib.hid (And.intro hb0 (And.intro hPl (And.intro hA hP)))
  go_enter Tryd.func17, Tryd.ntmps17
  go_upto_region 4 with fail
  rw [← hw0, ← hP, ← hA]
  have hne : A ≠ P := by omega
  have hne2 : P ≠ A := by omega
  have ca0 := hra.cell (i := 0) rfl
  have ca1 := hra.cell (i := 1) rfl
  have HRA := Lib.hid hra
  have HRP := Lib.hid hrp
  clear hw0 hA hP hb0 hPl hra hrp
  go_upto_region 13 with (first
    | (go_at_call 56
       refine (new_any hn).mono ?_
       rintro e w1 ⟨q1, rfl, hq1, hb1⟩
       have hrp1 := HRP.out.below hb1
       have cp1 := hrp1.cell (i := 0) rfl
       have fp1 := hrp1.frozen 0
       have HRP1 := Lib.hid hrp1
       have HRA1 := Lib.hid (HRA.out.below hb1)
       have HQ1 := Lib.hid hq1
       have HB1 := Lib.hid hb1
       clear hrp1 hq1 hb1)
    | fail)
  obtain ⟨w2, hw2⟩ : ∃ w2, w2 = w1.setCell ⟨P, 0, none⟩ (.pointer q1) := ⟨_, rfl⟩
  have hra2 := HRA1.out.other hne2 0 (.pointer q1)
  have hrp2 := HRP1.out.set 0 (.pointer q1)
  have hm12 : Mod (fun k => k = P) w1 w2 := by rw [hw2]; exact Mod.setCell _ _ _ _ rfl
  rw [← hw2] at hra2 hrp2 ⊢
  have HM12 := Lib.hid hm12
  have HRA2 := Lib.hid hra2
  have HRP2 := Lib.hid hrp2
  have ca2 := hra2.cell (i := 1) rfl
  clear ca0 ca1 cp1 fp1 hra2 hrp2 hm12 hw2
  go_upto_region 14 with (first
    | (go_at_call 57
       refine (rnew_any hn).mono ?_
       rintro e w3 ⟨q3, rfl, hq3, hb3⟩
       have hrp3 := HRP2.out.below hb3
       have cp3 := hrp3.cell (i := 1) rfl
       have fp3 := hrp3.frozen 1
       have HRP3 := Lib.hid hrp3
       have HQ3 := Lib.hid hq3
       have HB3 := Lib.hid hb3
       clear hrp3 hq3 hb3)
    | fail)
  obtain ⟨w4, hw4⟩ : ∃ w4, w4 = w3.setCell ⟨P, 1, none⟩ (.pointer q3) := ⟨_, rfl⟩
  have hrp4 := HRP3.out.set 1 (.pointer q3)
  have hm34 : Mod (fun k => k = P) w3 w4 := by rw [hw4]; exact Mod.setCell _ _ _ _ rfl
  rw [← hw4] at hrp4 ⊢
  have HM34 := Lib.hid hm34
  have cp40 := hrp4.cell (i := 0) rfl
  have cp41 := hrp4.cell (i := 1) rfl
  have HRP4 := Lib.hid hrp4
  clear cp3 fp3 hrp4 hm34 hw4 ca2
  obtain ⟨E, hE⟩ : ∃ E, E = Bm.errN n := ⟨_, rfl⟩
  rw [← hE] at HQ1 HQ3 ⊢
  clear hE
  obtain ⟨hb0, hPl, hA, hP⟩ := HBX.out
  have hs1 := HB1.out.size
  have hs2 := HM12.out.size
  have hs3 := HB3.out.size
  have hs4 := HM34.out.size
  have hbz : Bm.bools n.toNat (List.replicate (Bm.room n.toNat) 0) = List.replicate n.toNat false := Bm.bools_zero
  have hq3 := HQ3.out
  rw [← hbz] at hq3
  have hm04 : Mod (fun _ => False) w w4 := ((((Mod.of_below hb0).onB HB1.out).on HM12.out (fun k e => .inr (by omega))).onB HB3.out).on HM34.out (fun k e => .inr (by omega))
  have hm24 : Mod (fun k => k = P) w2 w4 := (Mod.of_below HB3.out).trans HM34.out
  have hbok := HB.out.mod hm04 (fun _ _ e => e.elim)
  have hlow := HB.out.lt
  have hpost' : MadeP w w4 P b own ∧ q1.isNone = q3.isNone := by
    have hq1 : GotB w0 w2 q1 E n (List.replicate (Bm.room n.toNat) 0) := by
      rcases HQ1.out with h | ⟨h1, p, bw, ba, h2, h3, h4, h5, h6⟩
      · exact .inl h
      · exact .inr ⟨h1, p, bw, ba, h2, h3.mod HM12.out (by omega) (by omega) (by omega), h4, h5, h6⟩
    exact made_post hq1 hq3 (by omega) hPl (by omega) hm24 HM34.out (fun k _ h e => by omega) (fun k _ h e => by omega) HRP4.out (fun e => by have := hlow _ e; omega) (fun k hk _ e => by have := hlow _ e; omega)
  obtain ⟨hpost, hni⟩ := hpost'
  have HF := Lib.hid (And.intro hpost (And.intro hbok hm04))
  have hni2 : (q1 = none ∧ q3 = none) ∨ (∃ a a', q1 = some a ∧ q3 = some a') := by
    cases q1 <;> cases q3 <;> simp at hni ⊢
  clear hq3 hbz hs1 hs2 hs3 hs4 hPl hA hP hlow hm04 hm24 hbok hb0 hpost hni hne hne2
  rcases hni2 with ⟨rfl, rfl⟩ | ⟨a, a', rfl, rfl⟩
  all_goals
    go_quiet (fail)
  all_goals
    go_wp2_with fail
    refine bodyPost_ret (results_tmp2 rfl _ _ _) rfl ?_
    have hd := below_drewN w4 nq
    exact ⟨P, own, rfl, HF.out.1.below hd, (HF.out.2.1.below hd).more (by omega), fun k _ => Iff.rfl, (HF.out.2.2.onB hd).mono fun _ _ e => e.elim⟩
end Go.Proofs.YtckbckdaffdjmaaDoor

/- made, by From. -/
namespace Go.Proofs.YtckbckdaffdjmaaDoor
open Go.RowKit
set_option maxRecDepth 100000
set_option linter.unusedVariables false
set_option linter.unusedSimpArgs false

set_option maxHeartbeats 8000000 in
theorem made_from {w : World} {b N : Nat} {own : Nat → Prop} {late : Bool} (hK : KeepC late) (hN : N + 2 ≤ 5864062014805) (hb : Bok w b own late N) {n : Int} (hn : (Lit.int .i64 n).wf = true) {xv : Value} {V : List UInt64} (hx : RU w xv V) (hV : V.length + 80 ≤ 17592186044416) :
    Calls Tryd.prog 17 #[.agg #[.bool true, .int .i64 n, xv], .pointer (some ⟨b, 0, none⟩)] w fun e w' => ∃ P own', e = .returned (.tuple #[.pointer (some ⟨P, 0, none⟩), .bool true]) ∧ MadeP w w' P b own' ∧ Bok w' b own' late (N + 2) ∧ (∀ k, k < w.heap.size → (own' k ↔ own k)) ∧ Mod own w w' := by
  have HB := Lib.hid hb
  have HX := Lib.hid hx
  have HV := Lib.hid hV
  have HN := Lib.hid hN
  have HK := Lib.hid hK
  obtain ⟨q, c, hxe⟩ := hx.form
  obtain ⟨L, hL⟩ : ∃ L, L = V.length := ⟨_, rfl⟩
  rw [← hL] at hxe
  clear hx hb hL hV hN hK
  subst hxe
  obtain ⟨w0, A, P, hw0, hA, hP, hra, hrp, hb0, hPl⟩ := boxed w true n (.slice q L c) b
  have HBX := Lib.hid (And.intro hb0 (And.intro hPl (And.intro hA hP)))
  have HX0 := Lib.hid (HX.out.below hb0)
  go_enter Tryd.func17, Tryd.ntmps17
  go_upto_region 4 with fail
  rw [← hw0, ← hP, ← hA]
  have hne : A ≠ P := by omega
  have hne2 : P ≠ A := by omega
  have ca0 := hra.cell (i := 0) rfl
  have ca1 := hra.cell (i := 1) rfl
  have ca2 := hra.cell (i := 2) rfl
  have HRA := Lib.hid hra
  have HRP := Lib.hid hrp
  clear hw0 hA hP hb0 hPl hra hrp
  have hcop := copied_calls HX0.out (by have := HV.out; omega)
  have HCC := Lib.hid hcop
  clear hcop
  go_upto_region 7 with (first
    | (go_at_call 19
       refine HCC.out.mono ?_
       rintro e w1 ⟨xi, rfl, hci, hb1⟩
       have hra1 := HRA.out.below hb1
       have cb0 := hra1.cell (i := 0) rfl
       have cb1 := hra1.cell (i := 1) rfl
       have cb2 := hra1.cell (i := 2) rfl
       have HRA1 := Lib.hid hra1
       have HRP1 := Lib.hid (HRP.out.below hb1)
       have HCI := Lib.hid hci
       have HB1 := Lib.hid hb1
       have hfr := from_any (w := w1) hn (hci.ru (by have := HV.out; omega))
       have HFR := Lib.hid hfr
       clear hra1 hci hb1 hfr)
    | (go_at_call 54
       refine HFR.out.mono ?_
       rintro e w2 ⟨q2, rfl, hq2, hb2⟩
       have hrp2 := HRP1.out.below hb2
       have cp2 := hrp2.cell (i := 0) rfl
       have fp2 := hrp2.frozen 0
       have HRP2 := Lib.hid hrp2
       have HRA2 := Lib.hid (HRA1.out.below hb2)
       have HQ2 := Lib.hid hq2
       have HB2 := Lib.hid hb2
       clear hrp2 hq2 hb2)
    | fail)
  obtain ⟨w3, hw3⟩ : ∃ w3, w3 = w2.setCell ⟨P, 0, none⟩ (.pointer q2) := ⟨_, rfl⟩
  have hra3 := HRA2.out.other hne2 0 (.pointer q2)
  have hrp3 := HRP2.out.set 0 (.pointer q2)
  have hm23 : Mod (fun k => k = P) w2 w3 := by rw [hw3]; exact Mod.setCell _ _ _ _ rfl
  rw [← hw3] at hra3 hrp3 ⊢
  have HM23 := Lib.hid hm23
  have HRA3 := Lib.hid hra3
  have HRP3 := Lib.hid hrp3
  have cc1 := hra3.cell (i := 1) rfl
  have cc2 := hra3.cell (i := 2) rfl
  have hmx3 : Mod (fun _ => False) w w3 := (((Mod.of_below HBX.out.1).onB HB1.out).onB HB2.out).on HM23.out fun k e => .inr (by have := HBX.out.2.2.2; omega)
  have hx3 : RU w3 (.slice q L c) V := HX.out.mod hmx3 (fun _ _ _ e => e)
  have HMX3 := Lib.hid hmx3
  have hfr := rfrom_any (w := w3) hn hx3
  have HFR3 := Lib.hid hfr
  have HX3 := Lib.hid hx3
  clear ca0 ca1 ca2 cb0 cb1 cb2 cp2 fp2 hra3 hrp3 hm23 hw3 hmx3 hx3 hfr
  go_upto_region 8 with (first
    | (go_at_call 55
       refine HFR3.out.mono ?_
       rintro e w4 ⟨q4, rfl, hq4, hb4⟩
       have hrp4 := HRP3.out.below hb4
       have cp4 := hrp4.cell (i := 1) rfl
       have fp4 := hrp4.frozen 1
       have HRP4 := Lib.hid hrp4
       have HRA4 := Lib.hid (HRA3.out.below hb4)
       have HQ4 := Lib.hid hq4
       have HB4 := Lib.hid hb4
       clear hrp4 hq4 hb4)
    | fail)
  obtain ⟨w5, hw5⟩ : ∃ w5, w5 = w4.setCell ⟨P, 1, none⟩ (.pointer q4) := ⟨_, rfl⟩
  have hra5 := HRA4.out.other hne2 1 (.pointer q4)
  have hrp5 := HRP4.out.set 1 (.pointer q4)
  have hm45 : Mod (fun k => k = P) w4 w5 := by rw [hw5]; exact Mod.setCell _ _ _ _ rfl
  rw [← hw5] at hra5 hrp5 ⊢
  have HM45 := Lib.hid hm45
  have HRA5 := Lib.hid hra5
  have HRP5 := Lib.hid hrp5
  have cd2 := hra5.cell (i := 2) rfl
  clear cp4 fp4 hra5 hrp5 hm45 hw5 cc1 cc2
  have hmx5 : Mod (fun _ => False) w w5 := (HMX3.out.onB HB4.out).on HM45.out fun k e => .inr (by have := HBX.out.2.2.2; omega)
  have hx5 : RU w5 (.slice q L c) V := HX.out.mod hmx5 (fun _ _ _ e => e)
  have hxiP : ∀ g, xi.ownBlock = some g → w0.heap.size ≤ g ∧ g < w1.heap.size := fun g e => (HCI.out.ou (by have := HV.out; omega)).lt g e
  have hm15 : Mod (fun k => k = P) w1 w5 := ((Mod.of_below HB2.out).trans HM23.out).trans ((Mod.of_below HB4.out).trans (HM45.out))
  have hci5 := HCI.out.mod hm15 (fun g e e' => by have h1 := (hxiP g e).1; have h2 := HBX.out.2.1; omega)
  have hint := intact_calls hci5 hx5 (by have := HV.out; omega)
  have HINT := Lib.hid hint
  have HMX5 := Lib.hid hmx5
  have HCI5 := Lib.hid hci5
  have HXIP := Lib.hid hxiP
  have HM15 := Lib.hid hm15
  clear hmx5 hx5 hxiP hm15 hci5 hint
  have HMX6 : Hid (∀ w6, Below w5.heap.size w5 w6 → Calls Tryd.prog 23 #[.pointer (some ⟨b, 0, none⟩), xi] w6 fun e w' => e = .returned (.tuple #[]) ∧ ∃ own', Bok w' b own' late (N + 2) ∧ (∀ k, k < w6.heap.size → (own' k ↔ own k ∨ xi.ownBlock = some k)) ∧ Mod (fun k => own k ∨ xi.ownBlock = some k) w6 w') := Lib.hid fun w6 hb6 =>
    HK.out.run (HB.out.mod (HMX5.out.onB hb6) (fun _ _ e => e.elim)) (((HCI5.out.below hb6).ou (by have := HV.out; omega)).more (Nat.zero_le _)) HV.out (fun g e e' => by have h1 := (HXIP.out g e).1; have h2 := HB.out.lt g e'; have h3 := HBX.out.1.size; omega) HN.out
  go_upto_region 14 with (first
    | (go_at_call 25
       refine HINT.out.out.mono ?_
       rintro e w6 ⟨rfl, hb6⟩
       have HB6 := Lib.hid hb6
       clear hb6)
    | (go_at_call 23
       refine (HMX6.out w6 HB6.out).mono ?_
       rintro e w7 ⟨rfl, own', hbok7, hlow7, hm7⟩
       have HBOK7 := Lib.hid hbok7
       have HLOW7 := Lib.hid hlow7
       have HM7 := Lib.hid hm7
       clear hbok7 hlow7 hm7)
    | fail)
  obtain ⟨E, hE⟩ : ∃ E, E = Bm.errF n V := ⟨_, rfl⟩
  rw [← hE] at HQ2 HQ4 ⊢
  clear hE
  obtain ⟨hb0, hPl, hA, hP⟩ := HBX.out
  have hs0 := hb0.size
  have hs1 := HB1.out.size
  have hs2 := HB2.out.size
  have hs3 := HM23.out.size
  have hs4 := HB4.out.size
  have hs5 := HM45.out.size
  have hs6 := HB6.out.size
  have hs7 := HM7.out.size
  have hxi := HXIP.out
  have hown := HB.out.lt
  have hm07 : Mod own w w7 := ((HMX5.out.onB HB6.out).mono (fun _ _ e => e.elim)).on HM7.out (fun k e => e.elim .inl fun e => .inr (by have := hxi k e; omega))
  have hnP : ¬ (own P ∨ xi.ownBlock = some P) := fun e => e.elim (fun e => by have := hown _ e; omega) (fun e => by have := hxi _ e; omega)
  have hrp7 := (HRP5.out.below HB6.out).mod HM7.out hnP
  have hm57 : Mod (fun k => own k ∨ xi.ownBlock = some k) w5 w7 := (Mod.of_below HB6.out).trans HM7.out
  have hm47 : Mod (fun k => k = P ∨ own k ∨ xi.ownBlock = some k) w4 w7 := (HM45.out.mono fun _ _ e => .inl e).trans (hm57.mono fun _ _ e => .inr e)
  have hm37 : Mod (fun k => k = P ∨ own k ∨ xi.ownBlock = some k) w3 w7 := (Mod.of_below HB4.out).trans hm47
  have hFF : ∀ k, w1.heap.size ≤ k → ¬ (k = P ∨ own k ∨ xi.ownBlock = some k) := fun k hk e => by
    rcases e with e | e | e
    · omega
    · have := hown _ e; omega
    · have := hxi _ e; omega
  have hpost' : MadeP w w7 P b own' ∧ q2.isNone = q4.isNone := by
    have hq1 : GotB w1 w3 q2 E n V := by
      rcases HQ2.out with h | ⟨h1, p, bw, ba, h2, h3, h4, h5, h6⟩
      · exact .inl h
      · exact .inr ⟨h1, p, bw, ba, h2, h3.mod HM23.out (by omega) (by omega) (by omega), h4, h5, h6⟩
    refine made_post hq1 HQ4.out (by omega) (by omega) (by omega) hm37 hm47 (fun k _ h => hFF k h) (fun k _ h => hFF k (by omega)) hrp7 (fun e => hnP ((HLOW7.out P (by omega)).1 e)) (fun k h1 h2 e => hFF k h1 (.inr ((HLOW7.out k (by omega)).1 e)))
  obtain ⟨hpost, hni⟩ := hpost'
  have hlow : ∀ k, k < w.heap.size → (own' k ↔ own k) := fun k hk => (HLOW7.out k (by omega)).trans ⟨fun e => e.elim id fun e => by have := hxi k e; omega, .inl⟩
  have hp0 := hrp7.cell (i := 0) rfl
  have hp1 := hrp7.cell (i := 1) rfl
  have HF := Lib.hid (And.intro hpost (And.intro HBOK7.out (And.intro hlow hm07)))
  have hni2 : (q2 = none ∧ q4 = none) ∨ (∃ a a', q2 = some a ∧ q4 = some a') := by
    cases q2 <;> cases q4 <;> simp at hni ⊢
  clear hs0 hs1 hs2 hs3 hs4 hs5 hs6 hs7 hPl hA hP hxi hown hm07 hnP hrp7 hm57 hm47 hm37 hFF hb0 hpost hni hlow hne hne2 cd2
  rcases hni2 with ⟨rfl, rfl⟩ | ⟨a, a', rfl, rfl⟩
  all_goals
    go_quiet (fail)
  all_goals
    go_wp2_with fail
    refine bodyPost_ret (results_tmp2 rfl _ _ _) rfl ?_
    have hd := below_drewN w7 nq
    exact ⟨P, own', rfl, HF.out.1.below hd, HF.out.2.1.below hd, HF.out.2.2.1, HF.out.2.2.2.onB hd⟩
end Go.Proofs.YtckbckdaffdjmaaDoor

/- ask: Len, Count, Words, Summary. -/
namespace Go.Proofs.YtckbckdaffdjmaaDoor
open Go.RowKit
set_option maxRecDepth 100000
set_option linter.unusedVariables false
set_option linter.unusedSimpArgs false

/-- The question, just boxed. -/
theorem boxedOp (w : World) (cs : List Value) : ∃ w0 A, w0 = w.alloc (.cells cs.toArray 39) ∧ A = w.heap.size ∧ Rw w0 A 39 cs ∧ Below w.heap.size w w0 :=
  ⟨_, _, rfl, rfl, heap_new _ _ _ rfl, below_alloc1 _ _⟩
/-- What a call of the pair is told by. -/
structure PrB (w : World) (P p bw ba r bb b n : Nat) (W : List UInt64) (own : Nat → Prop) (late : Bool) (N : Nat) : Prop where
  pr : Pr w P p bw ba r bb b n W
  bk : Bok w b own late N
  no : ∀ k, Pr.At P p bw ba r bb k → ¬ own k
theorem PrB.below {w w' : World} {P p bw ba r bb b n N : Nat} {W : List UInt64} {own : Nat → Prop} {late : Bool} (h : PrB w P p bw ba r bb b n W own late N) (hb : Below w.heap.size w w') : PrB w' P p bw ba r bb b n W own late N := ⟨h.pr.below hb, h.bk.below hb, h.no⟩
/-- What an answer of the pair leaves. -/
def AskP (w : World) (b : Nat) (own : Nat → Prop) (late : Bool) (N : Nat) (e : Ending) (w' : World) : Prop :=
  e = .returned (.bool true) ∧ ∃ own', Bok w' b own' late (N + 2) ∧ (∀ k, k < w.heap.size → (own' k ↔ own k)) ∧ Mod own w w'
theorem AskP.pure {w w' : World} {b N : Nat} {own : Nat → Prop} {late : Bool} (hb : Bok w b own late N) (h : Below w.heap.size w w') : AskP w b own late N (.returned (.bool true)) w' :=
  ⟨rfl, own, (hb.below h).more (by omega), fun _ _ => Iff.rfl, Mod.of_below h⟩
set_option maxHeartbeats 8000000 in
theorem ask_len {w : World} {P p bw ba r bb b n N : Nat} {W : List UInt64} {own : Nat → Prop} {late : Bool} (h : PrB w P p bw ba r bb b n W own late N) (s2 wv bf ac ag : Value) (A B : Int) :
    Calls Tryd.prog 18 #[.pointer (some ⟨P, 0, none⟩), .agg #[.int .i64 11, s2, .int .i64 A, .int .i64 B, wv, bf, ac, ag]] w (AskP w b own late N) := by
  obtain ⟨w0, D, hw0, hD, hrd, hb0⟩ := boxedOp w [.int .i64 11, s2, .int .i64 A, .int .i64 B, wv, bf, ac, ag]
  have HH := Lib.hid h
  have h0 := h.below hb0
  have HB0 := Lib.hid hb0
  have cd0 := hrd.cell (i := 0) rfl
  have cp0 := h0.pr.hP.cell (i := 0) rfl
  have cp1 := h0.pr.hP.cell (i := 1) rfl
  have lp := heap_lt h0.pr.hP
  have lr := heap_lt h0.pr.hr.hs
  have HM := Lib.hid h0.pr.hm
  have cr0 := h0.pr.hr.hs.cell (i := 0) rfl
  rw [Bm.bools_length] at cr0
  go_enter Tryd.func18, Tryd.ntmps18
  go_upto_region 1 with fail
  rw [← hw0, ← hD]
  clear h hrd hw0 hD h0
  go_upto_region 17 with fail
  refine wp_region_R (Below w0.heap.size w0) (by kernel_rfl) (by kernel_rfl) (by first | exact Below.refl _ _ | exact below_alloc1 _ _ | exact below_alloc2 _ _ _ | exact below_alloc3 _ _ _ _ | (repeat' (first | assumption | exact Below.refl _ _ | exact below_alloc1 _ _ | exact below_alloc2 _ _ _ | exact below_alloc3 _ _ _ _ | (refine Below.drew ?_) | (refine below_wb ?_ ?_) | (refine Below.alloc ?_ ?_ _) | omega | (simp; done) | (simp; omega)))) ?_
  (repeat (first | (apply wpR_pass rfl; (try simp only [Act.put, List.setIfInBounds_toArray, List.set_cons_succ, List.set_cons_zero])) | (apply wpR_val rfl; (focus (intro w1 hR; obtain ⟨hc, hf⟩ := bcellB hR; (try go_simp); (try exact Eq.refl _); done)); (try simp only [Act.put, List.setIfInBounds_toArray, List.set_cons_succ, List.set_cons_zero])) | (apply wpR_call rfl; (focus (intro w1 hR; obtain ⟨hc, hf⟩ := bcellB hR; (try go_simp); (try exact And.intro rfl rfl); done)); (focus (intro w1 hR; first | exact (len_calls (HM.out.below hR)).at_ (by first | omega | (simp; done) | (simp; omega)) hR)); (try simp only [Act.put, List.setIfInBounds_toArray, List.set_cons_succ, List.set_cons_zero])) | (apply wpR_val_want rfl; (focus (intro w1 hR; obtain ⟨hc, hf⟩ := bcellB hR; (try go_simp); (try exact Eq.refl _); done)); (try simp only [Act.put, List.setIfInBounds_toArray, List.set_cons_succ, List.set_cons_zero])) | (apply wpR_call_want rfl; (focus (intro w1 hR; obtain ⟨hc, hf⟩ := bcellB hR; (try go_simp); (try exact And.intro rfl rfl); done)); (focus (intro w1 hR; first | exact (len_calls (HM.out.below hR)).at_ (by first | omega | (simp; done) | (simp; omega)) hR)); (try simp only [Act.put, List.setIfInBounds_toArray, List.set_cons_succ, List.set_cons_zero]))))
  refine wpR_nil (fun w1 hb1 => ?_)
  go_wp2_with fail
  go_ret
  exact AskP.pure HH.out.bk (HB0.out.trans (hb1.mono HB0.out.size))
theorem cnt_bools {n : Nat} {W : List UInt64} (h : Bm.Ok n W) : Bm.cnt (fun i => (Bm.bools n W).getD i false) 0 (Bm.bools n W).length = Bm.ones' W := by
  rw [Bm.ones_ok h, Bm.bools_length]
  exact Bm.cnt_congr n fun t ht => by rw [Nat.zero_add, Bm.bools_getD, decide_eq_true ht, Bool.true_and]
set_option maxHeartbeats 8000000 in
theorem ask_count {w : World} {P p bw ba r bb b n N : Nat} {W : List UInt64} {own : Nat → Prop} {late : Bool} (h : PrB w P p bw ba r bb b n W own late N) (s2 wv bf ac ag : Value) (A B : Int) :
    Calls Tryd.prog 18 #[.pointer (some ⟨P, 0, none⟩), .agg #[.int .i64 7, s2, .int .i64 A, .int .i64 B, wv, bf, ac, ag]] w (AskP w b own late N) := by
  obtain ⟨w0, D, hw0, hD, hrd, hb0⟩ := boxedOp w [.int .i64 7, s2, .int .i64 A, .int .i64 B, wv, bf, ac, ag]
  have HH := Lib.hid h
  have h0 := h.below hb0
  have HB0 := Lib.hid hb0
  have cd0 := hrd.cell (i := 0) rfl
  have cp0 := h0.pr.hP.cell (i := 0) rfl
  have cp1 := h0.pr.hP.cell (i := 1) rfl
  have lp := heap_lt h0.pr.hP
  have lr := heap_lt h0.pr.hr.hs
  have HM := Lib.hid h0.pr.hm
  have HR : Hid (∀ w1, Below w0.heap.size w0 w1 → Pur Tryd.prog 59 #[.pointer (some ⟨r, 0, none⟩)] w1 (.int .i64 (Bm.ones' W : Nat))) := Lib.hid fun w1 hR => by
    rw [← cnt_bools h0.pr.hm.ok]; exact rcount_calls (h0.pr.hr.below hR)
  go_enter Tryd.func18, Tryd.ntmps18
  go_upto_region 1 with fail
  rw [← hw0, ← hD]
  clear h hrd hw0 hD h0
  go_upto_region 7 with fail
  refine wp_region_R (Below w0.heap.size w0) (by kernel_rfl) (by kernel_rfl) (by first | exact Below.refl _ _ | exact below_alloc1 _ _ | exact below_alloc2 _ _ _ | exact below_alloc3 _ _ _ _ | (repeat' (first | assumption | exact Below.refl _ _ | exact below_alloc1 _ _ | exact below_alloc2 _ _ _ | exact below_alloc3 _ _ _ _ | (refine Below.drew ?_) | (refine below_wb ?_ ?_) | (refine Below.alloc ?_ ?_ _) | omega | (simp; done) | (simp; omega)))) ?_
  (repeat (first | (apply wpR_pass rfl; (try simp only [Act.put, List.setIfInBounds_toArray, List.set_cons_succ, List.set_cons_zero])) | (apply wpR_val rfl; (focus (intro w1 hR; obtain ⟨hc, hf⟩ := bcellB hR; (try go_simp); (try exact Eq.refl _); done)); (try simp only [Act.put, List.setIfInBounds_toArray, List.set_cons_succ, List.set_cons_zero])) | (apply wpR_call rfl; (focus (intro w1 hR; obtain ⟨hc, hf⟩ := bcellB hR; (try go_simp); (try exact And.intro rfl rfl); done)); (focus (intro w1 hR; first | exact (count_calls (HM.out.below hR)).at_ (by first | omega | (simp; done) | (simp; omega)) hR | exact (HR.out w1 hR).at_ (by first | omega | (simp; done) | (simp; omega)) hR)); (try simp only [Act.put, List.setIfInBounds_toArray, List.set_cons_succ, List.set_cons_zero])) | (apply wpR_val_want rfl; (focus (intro w1 hR; obtain ⟨hc, hf⟩ := bcellB hR; (try go_simp); (try exact Eq.refl _); done)); (try simp only [Act.put, List.setIfInBounds_toArray, List.set_cons_succ, List.set_cons_zero])) | (apply wpR_call_want rfl; (focus (intro w1 hR; obtain ⟨hc, hf⟩ := bcellB hR; (try go_simp); (try exact And.intro rfl rfl); done)); (focus (intro w1 hR; first | exact (count_calls (HM.out.below hR)).at_ (by first | omega | (simp; done) | (simp; omega)) hR | exact (HR.out w1 hR).at_ (by first | omega | (simp; done) | (simp; omega)) hR)); (try simp only [Act.put, List.setIfInBounds_toArray, List.set_cons_succ, List.set_cons_zero]))))
  refine wpR_nil (fun w1 hb1 => ?_)
  go_wp2_with fail
  go_ret
  exact AskP.pure HH.out.bk (HB0.out.trans (hb1.mono HB0.out.size))
theorem NewU.ou {w w' : World} {v : Value} {W : List UInt64} (h : NewU w w' v W) (hl : W.length ≤ 17592186044416) : OU w.heap.size w' v W := by
  obtain ⟨g, rfl, h4, h3, _⟩ := h
  refine ⟨⟨by simp, .inr ⟨g, W.length, (W.map uv).toArray, rfl, h3, h4, Nat.le_refl _, by simp only [maxLen]; omega, by simp, ?_⟩⟩, hl⟩
  simp
  exact List.take_of_length_le (by simp)
theorem NewU.bel {w w' : World} {v : Value} {W : List UInt64} (h : NewU w w' v W) : Below w.heap.size w w' := h.elim fun _ h => h.2.2.2
set_option maxHeartbeats 8000000 in
theorem ask_words {w : World} {P p bw ba r bb b n N : Nat} {W : List UInt64} {own : Nat → Prop} {late : Bool} (hK : KeepC late) (hN : N + 2 ≤ 5864062014805) (h : PrB w P p bw ba r bb b n W own late N) (s2 wv bf ac ag : Value) (A B : Int) :
    Calls Tryd.prog 18 #[.pointer (some ⟨P, 0, none⟩), .agg #[.int .i64 12, s2, .int .i64 A, .int .i64 B, wv, bf, ac, ag]] w (AskP w b own late N) := by
  obtain ⟨w0, D, hw0, hD, hrd, hb0⟩ := boxedOp w [.int .i64 12, s2, .int .i64 A, .int .i64 B, wv, bf, ac, ag]
  have HH := Lib.hid h
  have h0 := h.below hb0
  have HB0 := Lib.hid hb0
  have H0 := Lib.hid h0
  have HK := Lib.hid hK
  have HN := Lib.hid hN
  have cd0 := hrd.cell (i := 0) rfl
  have cp0 := h0.pr.hP.cell (i := 0) rfl
  have cp1 := h0.pr.hP.cell (i := 1) rfl
  have cp2 := h0.pr.hP.cell (i := 2) rfl
  have HWL : Hid (W.length ≤ 1024) := Lib.hid (by rw [h0.pr.hm.ok.len]; exact h0.pr.hm.room_le.1)
  go_enter Tryd.func18, Tryd.ntmps18
  go_upto_region 1 with fail
  rw [← hw0, ← hD]
  clear h hrd hw0 hD h0 hK hN hb0
  go_wp2_with (first
    | (go_at_call 32
       refine (words_calls H0.out.pr.hm).mono ?_
       rintro e w1 ⟨v1, rfl, hn1⟩
       have hb1 := hn1.bel
       have h1 := H0.out.below hb1
       have cq0 := h1.pr.hP.cell (i := 0) rfl
       have cq1 := h1.pr.hP.cell (i := 1) rfl
       have cq2 := h1.pr.hP.cell (i := 2) rfl
       have H1 := Lib.hid h1
       have HB1 := Lib.hid hb1
       have HN1 := Lib.hid hn1
       clear hb1 h1 hn1)
    | (go_at_call 63
       refine (rwords_calls H1.out.pr.hr).mono ?_
       rintro e w2 ⟨v2, rfl, hn2⟩
       rw [Bm.pack_bools H1.out.pr.hm.ok] at hn2
       have hb2 := hn2.bel
       have h2 := H1.out.below hb2
       have H2 := Lib.hid h2
       have HB2 := Lib.hid hb2
       have HN2 := Lib.hid hn2
       have hsw := sameWords_calls (((HN1.out.ou (by have := HWL.out; omega)).ru).below hb2) (hn2.ru (by have := HWL.out; omega))
       have HSW := Lib.hid hsw
       clear hb2 h2 hn2 hsw)
    | (go_at_call 22
       refine HSW.out.out.mono ?_
       rintro e w3 ⟨rfl, hb3⟩
       have h3 := H2.out.below hb3
       have cr2 := h3.pr.hP.cell (i := 2) rfl
       have H3 := Lib.hid h3
       have HB3 := Lib.hid hb3
       clear hb3 h3)
    | (go_at_call 23
       have hO3 := ((HN1.out.ou (by have := HWL.out; omega)).below HB2.out).below HB3.out
       refine (HK.out.run H3.out.bk (hO3.more (Nat.zero_le _)) (by have := HWL.out; omega) (fun g e e' => by have h1 := (hO3.lt g e).1; have h2 := HH.out.bk.lt g e'; have h3 := HB0.out.size; omega) HN.out).mono ?_
       rintro e w4 ⟨rfl, own', hbok, hlow, hm⟩
       have HO3 := Lib.hid hO3
       have HBOK := Lib.hid hbok
       have HLOW := Lib.hid hlow
       have HM := Lib.hid hm
       clear hO3 hbok hlow hm)
    | fail)
  go_ret
  have hs0 := HB0.out.size
  have hs1 := HB1.out.size
  have hs2 := HB2.out.size
  have hs3 := HB3.out.size
  have hlt := fun g e => (HO3.out.lt g e).1
  refine ⟨rfl, own', HBOK.out, fun k hk => (HLOW.out k (by omega)).trans ⟨fun e => e.elim id fun e => by have := hlt k e; omega, .inl⟩, ?_⟩
  exact ((((Mod.of_below HB0.out).onB HB1.out).onB HB2.out).onB HB3.out).on HM.out (fun k e => e.elim .inl fun e => .inr (by have := hlt k e; omega))
set_option maxHeartbeats 8000000 in
theorem ask_summary {w : World} {P p bw ba r bb b n N : Nat} {W : List UInt64} {own : Nat → Prop} {late : Bool} (hK : KeepC late) (hN : N + 2 ≤ 5864062014805) (h : PrB w P p bw ba r bb b n W own late N) (s2 wv bf ac ag : Value) (A B : Int) :
    Calls Tryd.prog 18 #[.pointer (some ⟨P, 0, none⟩), .agg #[.int .i64 13, s2, .int .i64 A, .int .i64 B, wv, bf, ac, ag]] w (AskP w b own late N) := by
  obtain ⟨w0, D, hw0, hD, hrd, hb0⟩ := boxedOp w [.int .i64 13, s2, .int .i64 A, .int .i64 B, wv, bf, ac, ag]
  have HH := Lib.hid h
  have h0 := h.below hb0
  have HB0 := Lib.hid hb0
  have H0 := Lib.hid h0
  have HK := Lib.hid hK
  have HN := Lib.hid hN
  have cd0 := hrd.cell (i := 0) rfl
  have cp0 := h0.pr.hP.cell (i := 0) rfl
  have cp1 := h0.pr.hP.cell (i := 1) rfl
  have cp2 := h0.pr.hP.cell (i := 2) rfl
  have HWL : Hid ((Bm.upper W).length ≤ 1024) := Lib.hid (by rw [Bm.upper_length, h0.pr.hm.ok.len]; have := h0.pr.hm.room_le.2; omega)
  go_enter Tryd.func18, Tryd.ntmps18
  go_upto_region 1 with fail
  rw [← hw0, ← hD]
  clear h hrd hw0 hD h0 hK hN hb0
  go_wp2_with (first
    | (go_at_call 64
       refine (summary_calls H0.out.pr.hm).mono ?_
       rintro e w1 ⟨v1, rfl, hn1⟩
       have hb1 := hn1.bel
       have h1 := H0.out.below hb1
       have cq0 := h1.pr.hP.cell (i := 0) rfl
       have cq1 := h1.pr.hP.cell (i := 1) rfl
       have cq2 := h1.pr.hP.cell (i := 2) rfl
       have H1 := Lib.hid h1
       have HB1 := Lib.hid hb1
       have HN1 := Lib.hid hn1
       clear hb1 h1 hn1)
    | (go_at_call 65
       refine (rsummary_calls H1.out.pr.hr).mono ?_
       rintro e w2 ⟨v2, rfl, hn2⟩
       rw [Bm.pack_bools H1.out.pr.hm.ok] at hn2
       have hb2 := hn2.bel
       have h2 := H1.out.below hb2
       have H2 := Lib.hid h2
       have HB2 := Lib.hid hb2
       have HN2 := Lib.hid hn2
       have hsw := sameWords_calls (((HN1.out.ou (by have := HWL.out; omega)).ru).below hb2) (hn2.ru (by have := HWL.out; omega))
       have HSW := Lib.hid hsw
       clear hb2 h2 hn2 hsw)
    | (go_at_call 22
       refine HSW.out.out.mono ?_
       rintro e w3 ⟨rfl, hb3⟩
       have h3 := H2.out.below hb3
       have cr2 := h3.pr.hP.cell (i := 2) rfl
       have H3 := Lib.hid h3
       have HB3 := Lib.hid hb3
       clear hb3 h3)
    | (go_at_call 23
       have hO3 := ((HN1.out.ou (by have := HWL.out; omega)).below HB2.out).below HB3.out
       refine (HK.out.run H3.out.bk (hO3.more (Nat.zero_le _)) (by have := HWL.out; omega) (fun g e e' => by have h1 := (hO3.lt g e).1; have h2 := HH.out.bk.lt g e'; have h3 := HB0.out.size; omega) HN.out).mono ?_
       rintro e w4 ⟨rfl, own', hbok, hlow, hm⟩
       have HO3 := Lib.hid hO3
       have HBOK := Lib.hid hbok
       have HLOW := Lib.hid hlow
       have HM := Lib.hid hm
       clear hO3 hbok hlow hm)
    | fail)
  go_ret
  have hs0 := HB0.out.size
  have hs1 := HB1.out.size
  have hs2 := HB2.out.size
  have hs3 := HB3.out.size
  have hlt := fun g e => (HO3.out.lt g e).1
  refine ⟨rfl, own', HBOK.out, fun k hk => (HLOW.out k (by omega)).trans ⟨fun e => e.elim id fun e => by have := hlt k e; omega, .inl⟩, ?_⟩
  exact ((((Mod.of_below HB0.out).onB HB1.out).onB HB2.out).onB HB3.out).on HM.out (fun k e => e.elim .inl fun e => .inr (by have := hlt k e; omega))
end Go.Proofs.YtckbckdaffdjmaaDoor

/- A range over a function whose iterator has memory of its own and reads what the body writes; a region that draws its order, in a round. -/
namespace Go.Proofs.YtckbckdaffdjmaaDoor
open Go.RowKit
set_option linter.unusedVariables false
set_option linter.unusedSimpArgs false

section draws
variable {P : Program} {ops : Array Oper} {Q : Exit → Act → World → Prop}
/-- No defer statement. -/
def noDefer : List Oper → Bool
  | [] => true
  | o :: r => (match o.op with | .defer _ => false | _ => true) && noDefer r
theorem noDefer_at : ∀ {l : List Oper}, noDefer l = true → ∀ o ∈ l, ∀ c, o.op ≠ .defer c
  | [], _, o, h, _ => by simp at h
  | x :: r, hn, o, h, c => by
    simp only [noDefer, Bool.and_eq_true] at hn
    rcases List.mem_cons.1 h with rfl | h
    · intro e
      rw [e] at hn
      exact absurd hn.1 (by simp)
    · exact noDefer_at hn.2 o h c
theorem callIn_of_call {l n : Nat} {f : FuncId} {args : Array Value} {w : World} {R R' : Ending → World → Prop} (h : Calls P f args w R) (hR : ∀ e w', R e w' → R' e w') : CallsIn (Fence.wide.inRound l) n P f args w R' :=
  CallsIn.inRound l (callsIn_wide.2 (h.mono hR))
theorem rowIn_of_row {l n : Nat} {row : String} {args : Array Value} {w : World} {R : Value → World → Prop} (h : Rows P row args w R) : RowsIn (Fence.wide.inRound l) n P row args w R :=
  fun c cs _ => let ⟨v, w', r, s⟩ := h c cs; ⟨v, w', r, stepsIn_wide.2 s⟩
theorem depth_no {l n : Nat} : (Fence.wide.inRound l).depth.isSome = true → 1 ≤ n := fun e => by cases e
theorem uponIn_of_upon {l n : Nat} {o : Oper} {a : Act} {K : Act → World → Prop} (r : Result Next) (h : o.upon P a K Q r) : o.uponIn (Fence.wide.inRound l) n P a K Q r := by
  cases r with
  | ok x w' =>
    cases x
    all_goals first
      | exact h
      | exact ⟨depth_no, callIn_of_call h (fun e w'' he => by cases e <;> exact he)⟩
      | exact ⟨depth_no, rowIn_of_row h⟩
      | exact (show False from h).elim
  | halt x w' =>
    cases x
    all_goals first
      | exact h
      | exact (show False from h).elim
theorem opIn_of_op {l n : Nat} {o : Oper} {a : Act} {w : World} {K : Act → World → Prop} (hQ : ¬ LetsOut Q) (hd : ∀ c, o.op ≠ .defer c) (h : o.wp P a w K Q ∨ (o.asks P a w ∧ LetsOut Q)) : o.wpIn (Fence.wide.inRound l) n P a w K Q := by
  rcases h with h | h
  · refine ⟨fun _ _ => trivial, ?_⟩
    have he : o.semAt (Fence.wide.inRound l).round a.eval = execOp a.eval o := Oper.semAt_eq _ _ _ hd
    rw [he]
    exact uponIn_of_upon _ h
  · exact absurd h.2 hQ
theorem anyIn_of_any {l n : Nat} {md : Region.Mode} (hQ : ¬ LetsOut Q) (hd : ∀ (i : Nat) (o : Oper), ops[i]? = some o → ∀ c, o.op ≠ .defer c) : ∀ (fuel : Nat) (listed : Array Bool) (a : Act) (w : World), wpAny P md ops Q fuel listed a w → wpAnyIn (Fence.wide.inRound l) n P md ops Q fuel listed a w
  | 0, _, _, _, h => h
  | fuel + 1, listed, a, w, h => by
    refine ⟨h.1, fun i hi => ?_⟩
    have h2 := h.2 i hi
    unfold wpOp at h2
    unfold wpOpIn
    cases ho : ops[i]? with
    | none => rw [ho] at h2; exact anyIn_of_any hQ hd fuel _ _ _ h2
    | some o =>
      rw [ho] at h2
      dsimp only at h2 ⊢
      split
      · rename_i hw
        rw [if_pos hw] at h2
        refine Oper.wpIn_mono (fun a w hh => anyIn_of_any hQ hd fuel _ a w hh) (opIn_of_op hQ (hd i o ho) h2)
      · rename_i hw
        rw [if_neg hw] at h2
        exact ⟨fun _ _ => trivial, anyIn_of_any hQ hd fuel _ _ _ h2⟩
end draws
section
variable {P : Program}
theorem wpIn_region_R_tail {l0 k : Nat} {id : Nat} {Q : Exit → Act → World → Prop} {a : Act} {w : World} {l : List Oper} (R : World → Prop) (n : Nat) (hm : P.follows .mixedOrders = true) (hB : Region.lexTailB .any l.toArray n = true) (hd : noDefer l = true) (hQ : ¬ LetsOut Q)
    (hR : R { w with drawn := w.drawn + 1 })
    (h : wpR P l.toArray R (fun a' => ∀ w', R w' → wpList P l.toArray Q (l.drop n) a' w') (l.take n) a) : (Code.region id l.toArray true).wpIn (Fence.wide.inRound l0) k P Q a w :=
  wpIn_region_any hm (anyIn_of_any hQ (fun i o ho => noDefer_at hd o (List.mem_of_getElem? (by simpa using ho))) _ _ _ _ (region_R_tail_any R n hB hR h))
end
end Go.Proofs.YtckbckdaffdjmaaDoor

/- A range over a function: the law, where the iterator has memory of its own and reads what the body writes. -/
namespace Go.Proofs.YtckbckdaffdjmaaDoor
open Go.RowKit
set_option linter.unusedVariables false
set_option linter.unusedSimpArgs false

/-- What an iterator does with any body: J is the body's own word, s where the two stand; the iterator's own steps are T, what it wants kept across a round is Kp. -/
structure IterC {σ α : Type} (P : Program) (g : Nat) (lb : Array Value) (encs : α → Array Value) (T Kp : World → World → Prop) (Rd : σ → α → Prop) (St : σ → α → σ → Prop) (Fin : σ → Prop) (Inv : σ → World → Prop) (s0 : σ) (W0 : World) : Prop where
  run : ∀ (l : Nat) (J : σ → World → Prop) (Jx : World → Prop) (W : World), Below W0.heap.size W0 W → (∀ s A B, J s A → T A B → J s B) → (∀ A B, Jx A → T A B → Jx B) → (∀ s A, J s A → Inv s A) →
    (∀ s x A, J s A → Rd s x → YieldAt Fence.wide 0 P l (encs x) A fun e B => (e = .returned (.bool true) ∧ (∃ s', St s x s' ∧ J s' B) ∧ Kp A B) ∨ (e = .returned (.bool false) ∧ Jx B)) →
    J s0 W → CallsIn Fence.wide 0 P g (#[.func (.yield l) #[] #[]] ++ lb) W fun e B => (∃ v, e = .returned v) ∧ ((∃ s, J s B ∧ Fin s) ∨ Jx B)
/-- How a round's body may be left. -/
def rgPost {σ : Type} (Kp : World → World → Prop) (I : σ → World → Prop) (Nx : σ → Prop) (Ix : Code → World → Prop) (W : World) : Exit → Act → World → Prop
  | .normal, _, W' => KeepsOthers W W' ∧ Kp W W' ∧ ∃ s', Nx s' ∧ I s' W'
  | .ret, _, W' => KeepsOthers W W' ∧ Ix .ret W'
  | .exit id, _, W' => KeepsOthers W W' ∧ Ix (.exit id) W'
  | .goto t, _, W' => KeepsOthers W W' ∧ Ix (.goto t) W'
  | .panic _, _, _ => False
  | .outgrown, _, _ => False
theorem rgPost_out {σ : Type} {Kp : World → World → Prop} {I : σ → World → Prop} {Nx : σ → Prop} {Ix : Code → World → Prop} {W : World} : ¬ LetsOut (rgPost Kp I Nx Ix W) := fun ⟨_, _, h⟩ => h
/-- Blocks that were made since, and hold no cells, may turn. -/
def Turns (B : Nat) (I : World → Prop) : Prop := ∀ (W : World) (l : Nat) (o o' : Obj), I W → B ≤ l → W.heap[l]? = some o → o.isCells = false → I (W.putObj l o')
theorem wp_range {σ α : Type} {P : Program} {g : Operand} {ps : Array Tmp} {assign body : Code} {Q : Exit → Act → World → Prop} {a : Act} {w : World} {gf : Nat} {lb : Array Value} (hg : a.eval g = .func (.func gf) #[] lb) (eg : ∀ args w, (callFunc gf args).run P w = .ok (.enter gf args) w)
    {encs : α → Array Value} {T Kp : World → World → Prop} {Rd : σ → α → Prop} {St : σ → α → σ → Prop} {Fin : σ → Prop} {Inv : σ → World → Prop} {s0 : σ} (hc : IterC P gf lb encs T Kp Rd St Fin Inv s0 w) (hps : ∀ x, (encs x).size = ps.size)
    (hT : ∀ A B, T A B → KeepsOthers A B) (hKt : ∀ {A B C : World}, Kp A B → Kp B C → Kp A C) (hKb : ∀ (W : World) (l : Nat) (o o' : Obj), w.heap.size ≤ l → W.heap[l]? = some o → o.isCells = false → Kp W (W.putObj l o'))
    (I : σ → World → Prop) (Ix : Code → World → Prop) (hIT : ∀ s A B, I s A → T A B → I s B) (hIxT : ∀ c A B, Ix c A → T A B → Ix c B) (hI : ∀ s, Turns w.heap.size (I s)) (hIx : ∀ c, Turns w.heap.size (Ix c))
    (h0 : ∀ W1, Below w.heap.size w W1 → I s0 W1) (hIv : ∀ s A, I s A → Inv s A) (a₁ : α → Act)
    (hassign : ∀ (l : Nat) (x : α) (W : World) (K : Act → World → Prop), K (a₁ x) W →
      assign.wpIn (Fence.wide.inRound l) 0 P (Exit.then K (fun _ _ _ => False)) { tmps := (ps.zip (encs x)).foldl (fun t (p, v) => t.setIfInBounds p v) a.tmps, defers := [] } W)
    (hbody : ∀ (l : Nat) (s : σ) (x : α) (W : World), I s W → Rd s x → body.wpIn (Fence.wide.inRound l) 0 P (rgPost Kp I (St s x) Ix W) (a₁ x) W)
    (hdone : ∀ (D : Nat) (s : σ) (W : World), w.heap.size ≤ D → I s W → Fin s → W.heap[D]? = some (.deferred (some [])) → Q .normal { a with defers := { target := .collected D, args := #[] } :: a.defers } W)
    (hstop : ∀ (D : Nat) (c : Code) (W : World), w.heap.size ≤ D → Ix c W → W.heap[D]? = some (.deferred (some [])) → c.wp P Q { a with defers := { target := .collected D, args := #[] } :: a.defers } W) :
    (Code.rangeFunc g ps assign body).wp P Q a w := by
  refine wpIn_wide (n := 0).1 (wpIn_rangeFunc fun fn _ => ?_)
  obtain ⟨rec, hrec⟩ : ∃ rec : LoopState → Option Code → Loop, rec = fun st pe => { state := st, pending := pe, fn, tmps := a.tmps, params := ps, assign, body, defers := w.heap.size } := ⟨_, rfl⟩
  obtain ⟨W1, hW1⟩ : ∃ W1, (w.alloc (.deferred (some []))).alloc (.loop (rec .ready none)) = W1 := ⟨_, rfl⟩
  have hbW : Below w.heap.size w W1 := by rw [← hW1]; exact (below_alloc1 w _).alloc (by simp) _
  have hL : W1.heap[w.heap.size + 1]? = some (.loop (rec .ready none)) := by
    rw [← hW1]; exact heap_new _ _ _ (by simp)
  have hD : W1.heap[w.heap.size]? = some (.deferred (some [])) := by
    rw [← hW1]; exact (heap_old _ _ _ (by simp)).trans (heap_new _ _ _ rfl)
  refine ⟨w.heap.size + 1, [{ target := .collected w.heap.size, args := #[] }], W1, { target := .fn (.func gf) lb, args := #[.func (.yield (w.heap.size + 1)) #[] #[]] }, W1, gf, #[.func (.yield (w.heap.size + 1)) #[] #[]] ++ lb, W1, ?_, ?_, fun _ _ => trivial, ?_, (fun e => by cases e), ?_⟩
  · rw [← hW1, hrec]; exact run_enterLoop_outer _ _ _ _ _
  · simp only [resolve, hg]
    simp [go_sem]
  · simp [invoke, go_sem, eg]
  refine (hc.run (w.heap.size + 1) (fun s W => I s W ∧ W.heap[w.heap.size + 1]? = some (.loop (rec .ready none)) ∧ W.heap[w.heap.size]? = some (.deferred (some [])))
    (fun W => ∃ c, Ix c W ∧ W.heap[w.heap.size + 1]? = some (.loop (rec .done (some c))) ∧ W.heap[w.heap.size]? = some (.deferred (some []))) W1 hbW
    (fun s A B h ht => ⟨hIT s A B h.1 ht, (hT A B ht).same _ _ h.2.1 rfl, (hT A B ht).same _ _ h.2.2 rfl⟩)
    (fun A B ⟨c, h1, h2, h3⟩ ht => ⟨c, hIxT c A B h1 ht, (hT A B ht).same _ _ h2 rfl, (hT A B ht).same _ _ h3 rfl⟩)
    (fun s A h => hIv s A h.1) ?_ ⟨h0 W1 hbW, hL, hD⟩).mono ?_
  · rintro s x W ⟨hi, hl, hd⟩ hrd
    have hlt := heap_lt hl
    have hy := run_yield (P := P) (args := encs x) hl (by rw [hrec]; exact hps x)
    rw [hrec] at hy
    refine ⟨fn, _, assign, body, hy, roundIn_of_wpIn trivial (hassign _ x W _ ⟨_, run_beginRound hl (by rw [hrec]), ?_⟩)⟩
    have hl2 : (W.putObj (w.heap.size + 1) (.loop { rec .ready none with state := .busy })).heap[w.heap.size + 1]? = some (.loop { rec .ready none with state := .busy }) := World.putObj_heap_same hlt
    have hd2 : (W.putObj (w.heap.size + 1) (.loop { rec .ready none with state := .busy })).heap[w.heap.size]? = some (.deferred (some [])) := (World.putObj_heap_other (by omega)).trans hd
    have hk2 : Kp W (W.putObj (w.heap.size + 1) (.loop { rec .ready none with state := .busy })) := hKb _ _ _ _ (by omega) hl rfl
    refine wpIn_mono (hbody _ s x _ (hI s _ _ _ _ hi (by omega) hl rfl) hrd) ?_
    -- how the round ends
    have fin : ∀ (j : Option Code) (W3 : World), KeepsOthers (W.putObj (w.heap.size + 1) (.loop { rec .ready none with state := .busy })) W3 →
        ∃ W4, (Instr.endRound (w.heap.size + 1) j).run P W3 = .ok (.bool j.isNone) W4 ∧ W4 = W3.putObj (w.heap.size + 1) (.loop (rec (if j.isNone then .ready else .done) j)) ∧ W3.heap[w.heap.size + 1]? = some (.loop { rec .ready none with state := .busy }) ∧
          W4.heap[w.heap.size + 1]? = some (.loop (rec (if j.isNone then .ready else .done) j)) ∧ W4.heap[w.heap.size]? = some (.deferred (some [])) := fun j W3 ho => by
      have h3 := ho.same _ _ hl2 rfl
      have h4 := run_endRound (P := P) j h3
      rw [hrec] at h4 h3 ⊢
      exact ⟨_, h4, rfl, h3, World.putObj_heap_same (heap_lt h3), (World.putObj_heap_other (by omega)).trans (ho.same _ _ hd2 rfl)⟩
    have fout : ∀ (c : Code) (W3 : World), KeepsOthers (W.putObj (w.heap.size + 1) (.loop { rec .ready none with state := .busy })) W3 → Ix c W3 →
        ∃ v W4, (Instr.endRound (w.heap.size + 1) (some c)).run P W3 = .ok v W4 ∧ v = .bool false ∧ ∃ c, Ix c W4 ∧ W4.heap[w.heap.size + 1]? = some (.loop (rec .done (some c))) ∧ W4.heap[w.heap.size]? = some (.deferred (some [])) := fun c W3 ho hx => by
      obtain ⟨W4, h4, rfl, h5, h6, h7⟩ := fin (some c) W3 ho
      exact ⟨_, _, h4, rfl, c, hIx c _ _ _ _ hx (by omega) h5 rfl, h6, h7⟩
    intro e a3 W3 hp
    cases e with
    | normal =>
      obtain ⟨ho, hk3, s', hs', hi3⟩ := hp
      obtain ⟨W4, h4, rfl, h5, h6, h7⟩ := fin none W3 ho
      exact ⟨_, _, h4, .inl ⟨rfl, ⟨s', hs', hI s' _ _ _ _ hi3 (by omega) h5 rfl, h6, h7⟩, hKt (hKt hk2 hk3) (hKb _ _ _ _ (by omega) h5 rfl)⟩⟩
    | ret =>
      obtain ⟨v, W4, h4, rfl, h5⟩ := fout .ret W3 hp.1 hp.2
      exact ⟨_, _, h4, .inr ⟨rfl, h5⟩⟩
    | exit id =>
      obtain ⟨v, W4, h4, rfl, h5⟩ := fout (.exit id) W3 hp.1 hp.2
      exact ⟨_, _, h4, .inr ⟨rfl, h5⟩⟩
    | goto t =>
      obtain ⟨v, W4, h4, rfl, h5⟩ := fout (.goto t) W3 hp.1 hp.2
      exact ⟨_, _, h4, .inr ⟨rfl, h5⟩⟩
    | panic ch => exact hp.elim
    | outgrown => exact hp.elim
  · rintro e W2 ⟨⟨v, rfl⟩, ⟨s, ⟨hi, hl, hd⟩, hf⟩ | ⟨c, hi, hl, hd⟩⟩
    · have he := run_endLoop (P := P) hl (by rw [hrec]; simp)
      rw [hrec] at he
      exact ⟨none, _, he, hdone _ s _ (Nat.le_refl _) (hI s _ _ _ _ hi (by omega) hl rfl) hf ((World.putObj_heap_other (by omega)).trans hd)⟩
    · have he := run_endLoop (P := P) hl (by rw [hrec]; simp)
      rw [hrec] at he
      exact ⟨some c, _, he, wpIn_wide.2 (hstop _ c _ (Nat.le_refl _) (hIx c _ _ _ _ hi (by omega) hl rfl) ((World.putObj_heap_other (by omega)).trans hd))⟩
/-- Stores into blocks of cells keep the others. -/
theorem KeepsOthers.of_mod {F : Nat → Prop} {A B : World} (h : Mod F A B) (hF : ∀ k, F k → ∃ c t z, A.heap[k]? = some (.cells c t z)) : KeepsOthers A B :=
  ⟨h.size, fun k o hk ho => by
    refine (h.block k (heap_lt hk) fun e => ?_).trans hk
    obtain ⟨c, t, z, hc⟩ := hF k e
    rw [hk] at hc
    injection hc with hc
    subst hc
    cases ho⟩
theorem KeepsOthers.of_below {A B : World} (h : Below A.heap.size A B) : KeepsOthers A B := KeepsOthers.of_mod (F := fun _ => False) (Mod.of_below h) (fun _ e => e.elim)
end Go.Proofs.YtckbckdaffdjmaaDoor

/- masks: an iterator that keeps its place in a cell of its own. -/
namespace Go.Proofs.YtckbckdaffdjmaaDoor
open Go.RowKit
attribute [local go_sem] Oper.semAt_some
set_option maxRecDepth 100000
set_option linter.unusedVariables false
set_option linter.unusedSimpArgs false

/-- A loop under an invariant that knows how many rounds are left at most. -/
theorem wpIn_loop_ghost {F : Fence} {n : Nat} {P : Program} {c : Code} {Q : Exit → Act → World → Prop} {a : Act} {w : World} (I : Nat → Act → World → Prop) (N : Nat) (h0 : I N a w)
    (hr : ∀ k a w, I k a w → c.wpIn F n P (Exit.then (fun a' w' => ∃ m, m < k ∧ I m a' w') Q) a w) : (Code.loop c).wpIn F n P Q a w := by
  have key : ∀ N k a w, k ≤ N → I k a w → Code.roundsIn F n P c Q (N + 1) a w := by
    intro N
    induction N with
    | zero =>
      intro k a w hk h
      refine wpIn_mono (hr k a w h) fun e a' w' he => ?_
      cases e with
      | normal => obtain ⟨m, hm, _⟩ := he; omega
      | _ => exact he
    | succ N ih =>
      intro k a w hk h
      refine wpIn_mono (hr k a w h) fun e a' w' he => ?_
      cases e with
      | normal => obtain ⟨m, hm, hi⟩ := he; exact ih m a' w' (by omega) hi
      | _ => exact he
  exact wpIn_loop_rounds (N + 1) (key N N a w (Nat.le_refl _) h0)
namespace Bm
/-- Where the word's piece of a range ends. -/
def stopN (E s : Nat) : Nat := min E (64 * (s / 64) + 64)
/-- The piece's bits. -/
def maskN (E s : Nat) : Nat := (2 ^ (stopN E s - s) - 1) * 2 ^ (s % 64)
theorem ones_div {m k : Nat} (h : m + k = 64) : 18446744073709551615 / 2 ^ k = 2 ^ m - 1 := by
  have h1 : 2 ^ m * 2 ^ k = 18446744073709551616 := by rw [← Nat.pow_add, h]
  have h2 := Nat.two_pow_pos m
  have h3 := Nat.two_pow_pos k
  refine Nat.div_eq_of_lt_le ?_ ?_
  · rw [Nat.sub_mul, h1]; omega
  · rw [Nat.sub_add_cancel h2, h1]; omega
theorem mask_lt {m r : Nat} (h : r + m ≤ 64) : (2 ^ m - 1) * 2 ^ r < 18446744073709551616 := by
  have h1 : 2 ^ m * 2 ^ r ≤ 2 ^ 64 := by rw [← Nat.pow_add]; exact Nat.pow_le_pow_right (by decide) (by omega)
  have h3 := Nat.two_pow_pos r
  have h4 := Nat.two_pow_pos m
  rw [Nat.sub_mul]
  have h5 : 2 ^ m * 2 ^ r ≤ 18446744073709551616 := h1
  have h6 : 0 < 2 ^ m * 2 ^ r := Nat.mul_pos h4 h3
  omega
theorem mask_val {m r k : Nat} (hr : r + m ≤ 64) (hk : k = 64 - m) : IntKind.u64.wrap (18446744073709551615 / 2 ^ k * 2 ^ r) = (((2 ^ m - 1) * 2 ^ r : Nat) : Int) := by
  subst hk
  have h1 : (18446744073709551615 : Int) / 2 ^ (64 - m) = ((2 ^ m - 1 : Nat) : Int) := by
    rw [← ones_div (m := m) (k := 64 - m) (by omega), Int.natCast_ediv]; simp
  rw [h1]
  have h2 : ((2 ^ m - 1 : Nat) : Int) * 2 ^ r = (((2 ^ m - 1) * 2 ^ r : Nat) : Int) := by rw [Int.natCast_mul]; simp
  rw [h2]
  exact wrap_nat (mask_lt hr)
theorem stop_gt {E s : Nat} (h : s < E) : s < stopN E s := by unfold stopN; omega
theorem stop_le {E s : Nat} : stopN E s ≤ E ∧ stopN E s ≤ 64 * (s / 64) + 64 := by unfold stopN; omega
end Bm
section
variable {A B E : Nat}
def Mk.T (A : Nat) (X Y : World) : Prop := Mod (fun k => k = A) X Y ∧ KeepsOthers X Y
def Mk.K (A B : Nat) (X Y : World) : Prop := Y.heap[A]? = X.heap[A]? ∧ Y.heap[B]? = X.heap[B]?
def Mk.Rd (E : Nat) (s : Nat) (x : Nat × Nat) : Prop := s < E ∧ x = (s / 64, Bm.maskN E s)
def Mk.enc (x : Nat × Nat) : Array Value := #[.int .i64 x.1, .int .u64 x.2]
set_option maxHeartbeats 4000000 in
theorem masks_iter {W0 : World} {f : Nat} (hA : Rw W0 A 3 [.int .i64 f]) (hB : Rw W0 B 3 [.int .i64 E]) (hAB : A ≠ B) (hE : E ≤ 65536) :
    IterC Tryd.prog 98 #[.pointer (some ⟨A, 0, none⟩), .pointer (some ⟨B, 0, none⟩)] Mk.enc (Mk.T A) (Mk.K A B) (Mk.Rd E) (fun s _ s' => s' = Bm.stopN E s) (fun s => ¬ s < E) (fun _ _ => True) f W0 := by
  constructor
  intro l J Jx W hW hJ hJx _ hY h0
  have HJ := Lib.hid hJ
  have HJX := Lib.hid hJx
  have HY := Lib.hid hY
  have H0 := Lib.hid h0
  have HA := Lib.hid (hA.below hW)
  have HB := Lib.hid (hB.below hW)
  clear hJ hJx hY h0 hA hB
  (refine callsIn_of_wp Tryd.func98 rfl trivial ?_ rfl; simp only [Tryd.ntmps98, List.size_toArray, List.length_cons, List.length_nil, Nat.reduceAdd, Nat.reduceSub, Array.replicate_succ, Array.replicate_zero, List.push_toArray, List.append_toArray, List.nil_append, List.cons_append])
  gi_wp2_with fail
  refine wpIn_loop_ghost (fun k a w' => ∃ s, k = E - s ∧ Is (fun U => ⟨#[.func (.yield l) #[] #[], .pointer (some ⟨A, 0, none⟩), .pointer (some ⟨B, 0, none⟩), U 3, U 4, U 5, U 6, U 7, U 8, U 9, U 10, U 11, U 12, U 13, U 14, U 15, U 16, U 17, U 18, U 19, U 20, U 21, U 22, U 23, U 24, U 25, U 26, U 27, U 28, U 29, U 30, U 31, U 32], []⟩) a ∧ Rw w' A 3 [.int .i64 (s : Int)] ∧ Rw w' B 3 [.int .i64 (E : Int)] ∧ J s w') (E - f) ⟨f, rfl, isU (fun U => ⟨#[.func (.yield l) #[] #[], .pointer (some ⟨A, 0, none⟩), .pointer (some ⟨B, 0, none⟩), U 3, U 4, U 5, U 6, U 7, U 8, U 9, U 10, U 11, U 12, U 13, U 14, U 15, U 16, U 17, U 18, U 19, U 20, U 21, U 22, U 23, U 24, U 25, U 26, U 27, U 28, U 29, U 30, U 31, U 32], []⟩) rfl, HA.out, HB.out, H0.out⟩ ?_
  rintro k a w1 ⟨s, rfl, hU, ha, hb, hj⟩
  obtain ⟨U, rfl⟩ := hU.out
  have ca := ha.cell (i := 0) rfl
  have cb := hb.cell (i := 0) rfl
  have HA1 := Lib.hid ha
  have HB1 := Lib.hid hb
  have HJ1 := Lib.hid hj
  clear hU ha hb hj
  by_cases hs : s < E
  · have hs' : (s : Int) < (E : Int) := by omega
    have hr := HY.out s (s / 64, Bm.maskN E s) w1 HJ1.out ⟨hs, rfl⟩
    obtain ⟨fn, tmps, assign, body, hy, hR⟩ := hr
    dsimp only [Mk.enc] at hy
    have hd : ((s / 64 : Nat) : Int) = (s : Int) / 64 := by omega
    rw [hd] at hy
    have hs0 : (0 : Int) ≤ (s : Int) := Int.natCast_nonneg s
    have hs9 : (s : Int) ≤ 65536 := by omega
    have hE9 : (E : Int) ≤ 65536 := by omega
    have ha0 := HA1.out.frozen 0
    by_cases he : (E : Int) ≤ 64 * ((s : Int) / 64) + 64
    · have hst : Bm.stopN E s = E := by unfold Bm.stopN; omega
      have hmv := Bm.mask_val (m := E - s) (r := s % 64) (k := 64 - (E - s)) (by omega) rfl
      have hmn : Bm.maskN E s = (2 ^ (E - s) - 1) * 2 ^ (s % 64) := by unfold Bm.maskN; rw [hst]
      rw [hmn, ← hmv] at hy
      have HST := Lib.hid hst
      clear hmv hmn hst
      gi_wp2_with fail
      refine ⟨rfl, hR.mono ?_⟩
      rintro e w2 (⟨rfl, ⟨s2, rfl, hj2⟩, hk2⟩ | ⟨rfl, hjx⟩)
      · have ha2 : Rw w2 A 3 [.int .i64 (s : Int)] := hk2.1.trans HA1.out
        have hb2 : Rw w2 B 3 [.int .i64 (E : Int)] := hk2.2.trans HB1.out
        have ca2 := ha2.cell (i := 0) rfl
        have fa2 := ha2.frozen 0
        have HA2 := Lib.hid ha2
        have HB2 := Lib.hid hb2
        have HJ2 := Lib.hid hj2
        clear hR hy hk2 ha2 hb2 hj2 ca cb
        gi_wp2_with fail
        have hst := HST.out
        have ht : Mk.T A w2 (w2.setCell ⟨A, 0, none⟩ (.int .i64 ((E : Int)))) := ⟨Mod.setCell _ _ _ _ rfl, KeepsOthers.setCell _ _ _⟩
        have hj3 := HJ.out _ _ _ HJ2.out ht
        have ha3 := HA2.out.set 0 (.int .i64 ((E : Int)))
        have hb3 := HB2.out.mod ht.1 (fun e => hAB e.symm)
        refine ⟨E - Bm.stopN E s, ?_, Bm.stopN E s, rfl, isU (fun U => ⟨#[.func (.yield l) #[] #[], .pointer (some ⟨A, 0, none⟩), .pointer (some ⟨B, 0, none⟩), U 3, U 4, U 5, U 6, U 7, U 8, U 9, U 10, U 11, U 12, U 13, U 14, U 15, U 16, U 17, U 18, U 19, U 20, U 21, U 22, U 23, U 24, U 25, U 26, U 27, U 28, U 29, U 30, U 31, U 32], []⟩) rfl, ?_, hb3, hj3⟩
        · have := Bm.stop_gt hs; have := (Bm.stop_le (E := E) (s := s)).1; omega
        · have e3 : ((Bm.stopN E s : Nat) : Int) = (E : Int) := by omega
          rw [e3]; exact ha3
      · clear hR hy ca cb
        gi_wp2_with fail
        refine bodyPost_ret (results_none rfl _ _ _) rfl ?_
        exact ⟨⟨_, rfl⟩, .inr hjx⟩
    · have hst : Bm.stopN E s = 64 * (s / 64) + 64 := by unfold Bm.stopN; omega
      have hmv := Bm.mask_val (m := 64 * (s / 64) + 64 - s) (r := s % 64) (k := 64 - (64 * (s / 64) + 64 - s)) (by omega) rfl
      have hmn : Bm.maskN E s = (2 ^ (64 * (s / 64) + 64 - s) - 1) * 2 ^ (s % 64) := by unfold Bm.maskN; rw [hst]
      rw [hmn, ← hmv] at hy
      have HST := Lib.hid hst
      clear hmv hmn hst
      gi_wp2_with fail
      refine ⟨rfl, hR.mono ?_⟩
      rintro e w2 (⟨rfl, ⟨s2, rfl, hj2⟩, hk2⟩ | ⟨rfl, hjx⟩)
      · have ha2 : Rw w2 A 3 [.int .i64 (s : Int)] := hk2.1.trans HA1.out
        have hb2 : Rw w2 B 3 [.int .i64 (E : Int)] := hk2.2.trans HB1.out
        have ca2 := ha2.cell (i := 0) rfl
        have fa2 := ha2.frozen 0
        have HA2 := Lib.hid ha2
        have HB2 := Lib.hid hb2
        have HJ2 := Lib.hid hj2
        clear hR hy hk2 ha2 hb2 hj2 ca cb
        gi_wp2_with fail
        have hst := HST.out
        have ht : Mk.T A w2 (w2.setCell ⟨A, 0, none⟩ (.int .i64 (64 * ((s : Int) / 64) + 64))) := ⟨Mod.setCell _ _ _ _ rfl, KeepsOthers.setCell _ _ _⟩
        have hj3 := HJ.out _ _ _ HJ2.out ht
        have ha3 := HA2.out.set 0 (.int .i64 (64 * ((s : Int) / 64) + 64))
        have hb3 := HB2.out.mod ht.1 (fun e => hAB e.symm)
        refine ⟨E - Bm.stopN E s, ?_, Bm.stopN E s, rfl, isU (fun U => ⟨#[.func (.yield l) #[] #[], .pointer (some ⟨A, 0, none⟩), .pointer (some ⟨B, 0, none⟩), U 3, U 4, U 5, U 6, U 7, U 8, U 9, U 10, U 11, U 12, U 13, U 14, U 15, U 16, U 17, U 18, U 19, U 20, U 21, U 22, U 23, U 24, U 25, U 26, U 27, U 28, U 29, U 30, U 31, U 32], []⟩) rfl, ?_, hb3, hj3⟩
        · have := Bm.stop_gt hs; have := (Bm.stop_le (E := E) (s := s)).1; omega
        · have e3 : ((Bm.stopN E s : Nat) : Int) = 64 * ((s : Int) / 64) + 64 := by omega
          rw [e3]; exact ha3
      · clear hR hy ca cb
        gi_wp2_with fail
        refine bodyPost_ret (results_none rfl _ _ _) rfl ?_
        exact ⟨⟨_, rfl⟩, .inr hjx⟩
  · have hs' : ¬ (s : Int) < (E : Int) := by omega
    gi_wp2_with fail
    go_end0
    exact ⟨⟨_, rfl⟩, .inl ⟨s, HJ1.out, by omega⟩⟩
set_option maxHeartbeats 4000000 in
theorem masks_calls {w : World} {f e : Int} : Calls Tryd.prog 75 #[.int .i64 f, .int .i64 e] w fun en w' => ∃ A B, en = .returned (.func (.func 98) #[] #[.pointer (some ⟨A, 0, none⟩), .pointer (some ⟨B, 0, none⟩)]) ∧ A ≠ B ∧
    w.heap.size ≤ A ∧ w.heap.size ≤ B ∧ Rw w' A 3 [.int .i64 f] ∧ Rw w' B 3 [.int .i64 e] ∧ Below w.heap.size w w' := by
  have h1 : Rw ((w.alloc (.cells #[.int .i64 f] 3)).alloc (.cells #[.int .i64 e] 3)) w.heap.size 3 [.int .i64 f] := (heap_old _ _ _ (by simp)).trans (heap_new _ _ _ rfl)
  have h2 : Rw ((w.alloc (.cells #[.int .i64 f] 3)).alloc (.cells #[.int .i64 e] 3)) (w.heap.size + 1) 3 [.int .i64 e] := heap_new _ _ _ (by simp)
  have hb : Below w.heap.size w ((w.alloc (.cells #[.int .i64 f] 3)).alloc (.cells #[.int .i64 e] 3)) := (below_alloc1 _ _).alloc (by simp) _
  have H := Lib.hid (And.intro h1 (And.intro h2 hb))
  clear h1 h2 hb
  go_enter Tryd.func75, Tryd.ntmps75
  go_wp2_with fail
  go_ret
  exact ⟨_, _, rfl, by omega, Nat.le_refl _, Nat.le_succ _, H.out.1, H.out.2.1, H.out.2.2⟩
end
end Go.Proofs.YtckbckdaffdjmaaDoor

/- fits; setting and clearing a range: plain. -/
namespace Go.Proofs.YtckbckdaffdjmaaDoor
open Go.RowKit
set_option maxRecDepth 100000
set_option linter.unusedVariables false
set_option linter.unusedSimpArgs false

theorem i64_wf {x : Int} (h : (Lit.int .i64 x).wf = true) : -9223372036854775808 ≤ x ∧ x ≤ 9223372036854775807 := by
  have h2 : IntKind.i64.min ≤ x ∧ x ≤ IntKind.i64.max := by simpa [Lit.wf] using h
  exact h2
set_option maxHeartbeats 4000000 in
theorem fits_calls {w : World} {p bw ba n : Nat} {W : List UInt64} (h : BM w p bw ba n W) {first count : Int} (h1 : (Lit.int .i64 first).wf = true) (h2 : (Lit.int .i64 count).wf = true) : Pur Tryd.prog 74 #[.pointer (some ⟨p, 0, none⟩), .int .i64 first, .int .i64 count] w (.int .i64 (Bm.rangeE n first count : Nat)) := by
  unfold Pur
  have c0 := h.hs.cell (i := 0) rfl
  have hmx := h.ok.max
  have hp := h.ok.pos
  have lp := heap_lt h.hs
  have k1 := i64_wf h1
  have k2 := i64_wf h2
  unfold Bm.rangeE
  clear h
  go_enter Tryd.func74, Tryd.ntmps74
  by_cases e1 : count < 0
  · rw [if_pos e1]
    go_wp2_with fail
    go_ret
    exact ⟨rfl, Below.refl _ _⟩
  · rw [if_neg e1]
    by_cases e2 : first < 0
    · rw [if_pos (.inl e2)]
      go_wp2_with fail
      go_ret
      exact ⟨rfl, Below.refl _ _⟩
    · by_cases e3 : (n : Int) < first
      · rw [if_pos (.inr (.inl e3))]
        go_wp2_with fail
        go_ret
        exact ⟨rfl, Below.refl _ _⟩
      · by_cases e4 : (n : Int) - first < count
        · rw [if_pos (.inr (.inr e4))]
          go_wp2_with fail
          go_ret
          exact ⟨rfl, Below.refl _ _⟩
        · rw [if_neg (by omega)]
          go_wp2_with fail
          go_ret
          exact ⟨rfl, Below.refl _ _⟩
end Go.Proofs.YtckbckdaffdjmaaDoor

/- A range set or cleared, in bits and in words; how many change: plain. -/
namespace Go.Proofs.YtckbckdaffdjmaaDoor
set_option linter.unusedVariables false
set_option linter.unusedSimpArgs false
namespace Bm
/-- The bits from f on below s become so. -/
def putB (bs : List Bool) (f s : Nat) (to : Bool) : List Bool := (List.range bs.length).map fun i => if f ≤ i ∧ i < s then to else bs.getD i false
theorem putB_length (bs : List Bool) (f s : Nat) (to : Bool) : (putB bs f s to).length = bs.length := by simp [putB]
theorem putB_getD (bs : List Bool) (f s : Nat) (to : Bool) (i : Nat) : (putB bs f s to).getD i false = if i < bs.length then (if f ≤ i ∧ i < s then to else bs.getD i false) else false := by
  rw [List.getD_eq_getElem?_getD]
  by_cases h : i < bs.length
  · simp [putB, h]
  · rw [if_neg h, List.getElem?_eq_none (by rw [putB_length]; omega)]; rfl
theorem getD_ext {a b : List Bool} (hl : a.length = b.length) (h : ∀ i, a.getD i false = b.getD i false) : a = b := by
  refine List.ext_getElem hl fun i h1 h2 => ?_
  have := h i
  simpa [List.getD_eq_getElem?_getD, h1, h2] using this
theorem putB_none (bs : List Bool) (f : Nat) (to : Bool) : putB bs f f to = bs :=
  getD_ext (putB_length _ _ _ _) fun i => by
    rw [putB_getD]
    split
    · rw [if_neg (by omega)]
    · rw [List.getD_eq_getElem?_getD, List.getElem?_eq_none (by omega)]; rfl
/-- The same in words. -/
def setW (n : Nat) (W : List UInt64) (f s : Nat) (to : Bool) : List UInt64 := pack (putB (bools n W) f s to)
theorem bools_pack {bs : List Bool} {n : Nat} (h : bs.length = n) : bools n (pack bs) = bs := by
  subst h
  refine getD_ext (bools_length _ _) fun i => ?_
  rw [bools_getD, pack_bit]
  by_cases e : i < bs.length
  · simp [e]
  · rw [List.getD_eq_getElem?_getD, List.getElem?_eq_none (by omega)]; simp
theorem ok_pack {bs : List Bool} {n : Nat} (h : bs.length = n) (h1 : 1 ≤ n) (h2 : n ≤ 65536) : Ok n (pack bs) :=
  ⟨h1, h2, by rw [pack_length, h], fun i hi => by rw [pack_bit, List.getD_eq_getElem?_getD, List.getElem?_eq_none (by omega)]; rfl⟩
section
variable {n : Nat} {W : List UInt64} {f s E : Nat} {to : Bool}
theorem setW_ok (h : Ok n W) : Ok n (setW n W f s to) := ok_pack (by rw [putB_length, bools_length]) h.pos h.max
theorem setW_bools (h : Ok n W) : bools n (setW n W f s to) = putB (bools n W) f s to := bools_pack (by rw [putB_length, bools_length])
theorem setW_bit (h : Ok n W) (hs : s ≤ n) (i : Nat) : bit (setW n W f s to) i = if f ≤ i ∧ i < s then to else bit W i := by
  rw [setW, pack_bit, putB_getD, bools_length, bools_getD]
  by_cases e : i < n
  · rw [if_pos e]; simp [e]
  · rw [if_neg e, if_neg (by omega), h.tail i (by omega)]
theorem setW_start (h : Ok n W) : setW n W f f to = W := by rw [setW, putB_none, pack_bools h]
theorem maskN_bit (h : s < E) (t : Nat) : (maskN E s).testBit t = decide (s % 64 ≤ t ∧ t < s % 64 + (stopN E s - s)) := by
  rw [maskN, Nat.testBit_mul_two_pow, Nat.testBit_two_pow_sub_one]
  by_cases e : s % 64 ≤ t
  · simp only [e, decide_true, Bool.true_and, true_and]
    congr 1
    exact propext ⟨fun _ => by omega, fun _ => by omega⟩
  · simp [e]
theorem maskN_lt (h : s < E) : maskN E s < 18446744073709551616 := mask_lt (by have := stop_gt h; have := (stop_le (E := E) (s := s)).2; omega)
theorem not_bit {m : Nat} (hm : m < 18446744073709551616) (t : Nat) : (18446744073709551615 - m).testBit t = (decide (t < 64) && !m.testBit t) := by
  rw [show 18446744073709551615 - m = 2 ^ 64 - (m + 1) by omega, Nat.testBit_two_pow_sub_succ (by omega)]
/-- What the word of the piece becomes. -/
def pieceN (E s : Nat) (to : Bool) (x : Nat) : Nat := if to = true then x ||| maskN E s else x &&& (18446744073709551615 - maskN E s)
theorem piece_lt {x : Nat} (hx : x < 18446744073709551616) (h : s < E) : pieceN E s to x < 18446744073709551616 := by
  unfold pieceN
  split
  · exact Nat.or_lt_two_pow (n := 64) hx (maskN_lt h)
  · exact Nat.and_lt_two_pow (n := 64) _ (by omega)
theorem setW_next (h : Ok n W) (hf : f ≤ s) (hs : s < E) (hE : E ≤ n) {x : UInt64} (hx : (setW n W f s to)[s / 64]? = some x) :
    (setW n W f s to).set (s / 64) (UInt64.ofNat (pieceN E s to x.toNat)) = setW n W f (stopN E s) to := by
  have hst := stop_gt hs
  have hsl := stop_le (E := E) (s := s)
  have hlt : s / 64 < (setW n W f s to).length := (List.getElem?_eq_some_iff.1 hx).1
  have hxb : ∀ t, t < 64 → x.toNat.testBit t = if f ≤ 64 * (s / 64) + t ∧ 64 * (s / 64) + t < s then to else bit W (64 * (s / 64) + t) := fun t ht => by
    rw [← setW_bit h (by omega), bit, List.getD_eq_getElem?_getD, show (64 * (s / 64) + t) / 64 = s / 64 by omega, hx, show (64 * (s / 64) + t) % 64 = t by omega]; rfl
  refine words_ext (by rw [List.length_set, setW, setW, pack_length, pack_length, putB_length, putB_length]) fun i => ?_
  rw [bit_set hlt, setW_bit h (by omega), setW_bit h (by omega)]
  by_cases e : i / 64 = s / 64
  · rw [if_pos e, toNat_of (piece_lt x.toNat_lt hs)]
    have hi : 64 * (s / 64) + i % 64 = i := by omega
    have hb := hxb (i % 64) (Nat.mod_lt _ (by decide))
    rw [hi] at hb
    have hm : (maskN E s).testBit (i % 64) = decide (s ≤ i ∧ i < stopN E s) := by
      rw [maskN_bit hs]
      congr 1
      exact propext ⟨fun _ => by omega, fun _ => by omega⟩
    unfold pieceN
    split
    · rename_i hto
      rw [Nat.testBit_or, hb, hm]
      by_cases e1 : f ≤ i ∧ i < s
      · rw [if_pos e1, if_pos (by omega), hto]; rfl
      · rw [if_neg e1]
        by_cases e2 : s ≤ i ∧ i < stopN E s
        · rw [if_pos (by omega), hto, decide_eq_true e2, Bool.or_true]
        · rw [if_neg (by omega), decide_eq_false e2, Bool.or_false]
    · rename_i hto
      have hto' : to = false := by simpa using hto
      rw [Nat.testBit_and, hb, not_bit (maskN_lt hs), hm, decide_eq_true (Nat.mod_lt _ (by decide)), Bool.true_and]
      by_cases e1 : f ≤ i ∧ i < s
      · rw [if_pos e1, if_pos (by omega), hto']; rfl
      · rw [if_neg e1]
        by_cases e2 : s ≤ i ∧ i < stopN E s
        · rw [if_pos (by omega), hto', decide_eq_true e2]; simp
        · rw [if_neg (by omega), decide_eq_false e2]; simp
  · rw [if_neg e]
    by_cases e1 : f ≤ i ∧ i < s
    · rw [if_pos e1, if_pos (by omega)]
    · rw [if_neg e1, if_neg (by omega)]
theorem setW_ok_set (h : Ok n W) (hf : f ≤ s) (hs : s < E) (hE : E ≤ n) {x : UInt64} (hx : (setW n W f s to)[s / 64]? = some x) :
    Ok n ((setW n W f s to).set (s / 64) (UInt64.ofNat (pieceN E s to x.toNat))) := by rw [setW_next h hf hs hE hx]; exact setW_ok h
theorem stop_room (hs : s < E) (hE : E ≤ n) : s / 64 < room n := room_lt (by omega)
/-- How many change. -/
theorem cnt_split (g : Nat → Bool) {a c m : Nat} (h : a + c ≤ m) : cnt g 0 m = cnt g 0 a + cnt g a c + cnt g (a + c) (m - (a + c)) := by
  have h1 := cnt_add g 0 a (m - a)
  have h2 := cnt_add g a c (m - (a + c))
  rw [show a + (m - a) = m by omega, Nat.zero_add] at h1
  rw [show c + (m - (a + c)) = m - a by omega] at h2
  omega
theorem cnt_not (g : Nat → Bool) (a : Nat) : ∀ c, cnt g a c + cnt (fun i => !g i) a c = c
  | 0 => rfl
  | c + 1 => by
    have := cnt_not g a c
    rw [cnt, cnt]
    cases g (a + c) <;> simp <;> omega
theorem cnt_all {g : Nat → Bool} {a : Nat} : ∀ c, (∀ t, t < c → g (a + t) = true) → cnt g a c = c
  | 0, _ => rfl
  | c + 1, h => by rw [cnt, cnt_all c (fun t ht => h t (by omega)), if_pos (h c (by omega))]
theorem ones_setW (h : Ok n W) {c : Nat} (hc : f + c ≤ n) : ones' (setW n W f (f + c) to) + cnt (bit W) f c = ones' W + (if to = true then c else 0) := by
  rw [ones_ok h, ones_ok (setW_ok h), cnt_split (bit W) hc, cnt_split (bit (setW n W f (f + c) to)) hc]
  have h1 : cnt (bit (setW n W f (f + c) to)) 0 f = cnt (bit W) 0 f := cnt_congr f fun t ht => by rw [setW_bit h (by omega), if_neg (by omega)]
  have h2 : cnt (bit (setW n W f (f + c) to)) (f + c) (n - (f + c)) = cnt (bit W) (f + c) (n - (f + c)) := cnt_congr _ fun t ht => by rw [setW_bit h (by omega), if_neg (by omega)]
  have h3 : cnt (bit (setW n W f (f + c) to)) f c = if to = true then c else 0 := by
    split
    · rename_i e; exact cnt_all c fun t ht => by rw [setW_bit h (by omega), if_pos (by omega), e]
    · rename_i e
      have e' : to = false := by simpa using e
      exact cnt_none c fun t ht => by rw [setW_bit h (by omega), if_pos (by omega), e']
  rw [h1, h2, h3]
  omega
theorem cnt_le_ones (h : Ok n W) {c : Nat} (hc : f + c ≤ n) : cnt (bit W) f c ≤ ones' W := by rw [ones_ok h, cnt_split (bit W) hc]; omega
end
end Bm
end Go.Proofs.YtckbckdaffdjmaaDoor
