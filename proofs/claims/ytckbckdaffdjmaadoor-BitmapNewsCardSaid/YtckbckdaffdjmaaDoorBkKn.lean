/- keep, where it writes at once. -/
import Derived.Test.YtckbckdaffdjmaaDoorBkK
namespace Go.Proofs.YtckbckdaffdjmaaDoor
open Go.RowKit
set_option maxRecDepth 100000
set_option linter.unusedVariables false
set_option linter.unusedSimpArgs false

theorem mkN_nat {n : Nat} (h : n ≤ 5864062014805) (he : n % 2 = 0) : (mkN n).toNat = 11529215046068469761 + n := by
  unfold mkN; rw [Bm.toNat_of (by omega)]; omega
theorem rep_set (l : List UInt64) (y : UInt64) {i : Nat} (h : i < l.length) : (List.replicate i y ++ l.drop i).set i y = List.replicate (i + 1) y ++ l.drop (i + 1) := by
  apply List.ext_getElem?
  intro j
  by_cases e : i = j
  · subst e
    rw [List.getElem?_set_self (by simp; omega), List.getElem?_append_left (by simp), List.getElem?_replicate, if_pos (by omega)]
  · rw [List.getElem?_set_ne e]
    by_cases hj : j < i
    · rw [List.getElem?_append_left (by simpa using hj), List.getElem?_append_left (by simp; omega), List.getElem?_replicate, List.getElem?_replicate, if_pos hj, if_pos (by omega)]
    · rw [List.getElem?_append_right (by simp; omega), List.getElem?_append_right (by simp; omega), List.getElem?_drop, List.getElem?_drop, List.length_replicate, List.length_replicate, show i + (j - i) = j by omega, show i + 1 + (j - (i + 1)) = j by omega]
theorem cell_one (w : World) (x : Value) (t : TypeId) : (w.alloc (.cells #[x] t)).cell? ⟨w.heap.size, 0, none⟩ = some x := (has_cell (heap_new w (.cells #[x] t) w.heap.size rfl) 0).trans rfl
theorem Mod.trans' {F : Nat → Prop} {w w1 w' : World} (h : Mod F w w1) (k : Mod (fun k => F k ∨ w.heap.size ≤ k) w1 w') : Mod F w w' :=
  ⟨k.os.trans h.os, k.tape.trans h.tape, k.output.trans h.output, Nat.le_trans h.size k.size, fun i hi hf => (k.block i (Nat.lt_of_lt_of_le hi h.size) (fun e => e.elim hf (by omega))).trans (h.block i hi hf)⟩
theorem RU.keepAt {w w' : World} {q : Option Addr} {n c : Nat} {l : List UInt64} (h : RU w (.slice q n c) l) (hq : ∀ a, q = some a → a.off = 0) (hs : w.heap.size ≤ w'.heap.size)
    (hk : ∀ g i, q = some ⟨g, 0, none⟩ → i < l.length → g < w.heap.size → w'.cell? ⟨g, i, none⟩ = w.cell? ⟨g, i, none⟩) : RU w' (.slice q n c) l := by
  obtain ⟨p, c', e, h1, h2, h3, hr⟩ := h
  simp only [Value.slice.injEq] at e
  obtain ⟨rfl, rfl, rfl⟩ := e
  refine ⟨q, c, rfl, h1, h2, h3, fun i b hb => ?_⟩
  obtain ⟨g, o, e, hg, hc⟩ := hr i b hb
  have ho : o = 0 := hq _ e
  subst ho
  refine ⟨g, 0, e, by omega, ?_⟩
  rw [Nat.zero_add] at hc ⊢
  exact (hk g i e (List.getElem?_eq_some_iff.1 hb).1 hg).trans hc
theorem OU.off {B : Nat} {w : World} {q : Option Addr} {n c : Nat} {l : List UInt64} (h : OU B w (.slice q n c) l) : ∀ a, q = some a → a.off = 0 := by
  obtain ⟨⟨h0, ⟨e, hn⟩ | ⟨g, cap, cur, e, hr⟩⟩, hl⟩ := h
  · simp only [Value.slice.injEq] at e
    obtain ⟨rfl, -, -⟩ := e
    intro a ha; cases ha
  · simp only [Value.slice.injEq] at e
    obtain ⟨rfl, -, -⟩ := e
    intro a ha; injection ha with ha; rw [← ha]
set_option maxHeartbeats 4000000 in
theorem keep_now {w : World} {b : Nat} {own : Nat → Nat} {cur N0 N2 : Nat} (h : Bkk w b own false cur N0 N2) (hN : N0 + 2 ≤ 5864062014805) {x : Value} {l : List UInt64} (hx : OU 0 w x l) (hl : l.length + 80 ≤ 17592186044416)
    (ht : ∀ g, x.ownBlock = some g → own g = 0 ∨ own g = 10 + cur) :
    Calls Tryd.prog 23 #[.pointer (some ⟨b, 0, none⟩), x] w fun e w' => e = .returned (.tuple #[]) ∧ ∃ own', Bkk w' b own' false (cur + 1) (N0 + 2) N2 ∧ (∀ k, k < w.heap.size → own' k = if x.ownBlock = some k then 9 else own k) ∧ Mod (fun k => own k ≠ 0 ∨ x.ownBlock = some k) w w' := by
  obtain ⟨v0, v2, v3, K0, K2, K3, Ws, hb, hN0, hN2⟩ := h
  subst hN0 hN2
  have hev := hb.even
  have hmN := mkN_nat (n := K0.length) (by omega) hev
  obtain ⟨M, hM0⟩ : ∃ M, M = mkN K0.length := ⟨_, rfl⟩
  have HM0 := Lib.hid hM0
  rw [← hM0] at hmN
  have hM1 : IntKind.u64.wrap (11529215046068469761 + (K0.length : Int)) = (M.toNat : Int) := by rw [hmN, show (11529215046068469761 : Int) + (K0.length : Int) = ((11529215046068469761 + K0.length : Nat) : Int) by omega]; exact wrap_nat (by omega)
  have hM2 : IntKind.u64.wrap (K0.length : Int) = (K0.length : Int) := wrap_nat (by omega)
  obtain ⟨p0, cp0, e0⟩ := hb.r0.form
  obtain ⟨q, c, hxe⟩ := hx.ru.form
  have hxb : ∀ g, x.ownBlock = some g → g < w.heap.size ∧ (own g = 0 ∨ own g = 10 + cur) := fun g e => ⟨(hx.lt g e).2, ht g e⟩
  have hxn : ∀ g, x.ownBlock = some g → g ≠ b ∧ v0.ownBlock ≠ some g := fun g e => by
    refine ⟨fun e' => ?_, fun e' => ?_⟩
    · rcases ht g e with h1 | h1 <;> rw [e', hb.tb] at h1 <;> omega
    · rcases ht g e with h1 | h1 <;> rw [hb.t0 g e'] at h1 <;> omega
  have lb := heap_lt hb.blk
  have c1 := hb.blk.cell (i := 1) rfl
  have c0 := hb.blk.cell (i := 0) rfl
  have HQ : Hid (∀ a, q = some a → a.off = 0) := Lib.hid (by subst hxe; exact hx.off)
  have HB := Lib.hid hb
  have HX := Lib.hid hx
  have HN := Lib.hid hN
  have HL := Lib.hid hl
  have HXB := Lib.hid hxb
  have HXN := Lib.hid hxn
  clear hb hx hN hl hxb hxn hM0 hmN hev ht
  subst hxe
  rw [e0] at c0
  go_enter Tryd.func23, Tryd.ntmps23
  go_wp2_with fail
  refine wp_loop_count (fun i a w' => Is (fun U => ⟨#[.pointer (some ⟨b, 0, none⟩), .slice q l.length c, U 2, U 3, uv M, .int .i64 i, U 6, U 7, U 8, U 9, U 10, U 11, U 12, U 13, U 14, U 15, U 16, U 17, U 18, U 19, U 20, U 21, U 22, U 23, U 24, U 25, U 26, U 27, U 28, U 29, U 30, U 31, U 32, U 33, U 34, U 35, U 36, U 37, U 38, U 39, U 40, U 41, U 42, U 43, U 44, U 45, U 46, U 47, U 48, U 49, U 50, U 51, U 52, U 53, U 54, U 55, U 56, U 57, U 58, U 59, U 60, U 61, U 62, U 63, U 64, U 65, U 66, U 67, U 68, U 69, U 70, U 71, U 72, U 73, U 74, U 75, U 76, U 77, U 78, U 79], []⟩) a ∧ OU 0 w' (.slice q l.length c) (List.replicate i M ++ l.drop i) ∧ Mod (fun k => (Value.slice q l.length c).ownBlock = some k) w w') l.length ⟨isU (fun U => ⟨#[.pointer (some ⟨b, 0, none⟩), .slice q l.length c, U 2, U 3, uv M, .int .i64 0, U 6, U 7, U 8, U 9, U 10, U 11, U 12, U 13, U 14, U 15, U 16, U 17, U 18, U 19, U 20, U 21, U 22, U 23, U 24, U 25, U 26, U 27, U 28, U 29, U 30, U 31, U 32, U 33, U 34, U 35, U 36, U 37, U 38, U 39, U 40, U 41, U 42, U 43, U 44, U 45, U 46, U 47, U 48, U 49, U 50, U 51, U 52, U 53, U 54, U 55, U 56, U 57, U 58, U 59, U 60, U 61, U 62, U 63, U 64, U 65, U 66, U 67, U 68, U 69, U 70, U 71, U 72, U 73, U 74, U 75, U 76, U 77, U 78, U 79], []⟩) rfl, by simpa using HX.out, Mod.refl _ _⟩ ?_ ?_
  · rintro i a w' hi ⟨hU, hO, hm⟩
    obtain ⟨U, rfl⟩ := hU.out
    obtain ⟨g, z, rfl, hg, hc0, hf0, hO2, hgr⟩ := hO.store (i := i) (by simp; omega) M
    rw [rep_set l M hi] at hO2
    have hm2 := hm.trans (Mod.grown (F := fun k => (Value.slice (some ⟨g, 0, none⟩) l.length c).ownBlock = some k) hgr (fun k e _ => e))
    have HO := Lib.hid hO2
    have HM := Lib.hid hm2
    have hi' : (i : Int) < (l.length : Int) := by exact_mod_cast hi
    have hi2 : (l.length : Int) ≤ 17592186044416 := by have := HL.out; omega
    have hi0 : (0 : Int) ≤ (i : Int) := Int.natCast_nonneg i
    clear hU hO hm hO2 hm2 hgr hM1 hM2 c0 c1
    go_wp2_with fail
    exact ⟨isU (fun U => ⟨#[.pointer (some ⟨b, 0, none⟩), .slice (some ⟨g, 0, none⟩) l.length c, U 2, U 3, uv M, .int .i64 (i + 1 : Nat), U 6, U 7, U 8, U 9, U 10, U 11, U 12, U 13, U 14, U 15, U 16, U 17, U 18, U 19, U 20, U 21, U 22, U 23, U 24, U 25, U 26, U 27, U 28, U 29, U 30, U 31, U 32, U 33, U 34, U 35, U 36, U 37, U 38, U 39, U 40, U 41, U 42, U 43, U 44, U 45, U 46, U 47, U 48, U 49, U 50, U 51, U 52, U 53, U 54, U 55, U 56, U 57, U 58, U 59, U 60, U 61, U 62, U 63, U 64, U 65, U 66, U 67, U 68, U 69, U 70, U 71, U 72, U 73, U 74, U 75, U 76, U 77, U 78, U 79], []⟩) rfl, HO.out, HM.out⟩
  · rintro a w' ⟨hU, hO, hm⟩
    obtain ⟨U, rfl⟩ := hU.out
    rw [List.drop_length, List.append_nil] at hO
    have HO := Lib.hid hO
    have HM := Lib.hid hm
    clear hU hO hm hM1 hM2 c0 c1
    go_wp2_with fail
    refine wp_loop_count (fun j a w1 => ∃ y, Is (fun U => ⟨#[.pointer (some ⟨b, 0, none⟩), .slice q l.length c, U 2, U 3, uv M, U 5, y, .int .i64 j, U 8, U 9, U 10, U 11, U 12, U 13, U 14, U 15, U 16, U 17, U 18, U 19, U 20, U 21, U 22, U 23, U 24, U 25, U 26, U 27, U 28, U 29, U 30, U 31, U 32, U 33, U 34, U 35, U 36, U 37, U 38, U 39, U 40, U 41, U 42, U 43, U 44, U 45, U 46, U 47, U 48, U 49, U 50, U 51, U 52, U 53, U 54, U 55, U 56, U 57, U 58, U 59, U 60, U 61, U 62, U 63, U 64, U 65, U 66, U 67, U 68, U 69, U 70, U 71, U 72, U 73, U 74, U 75, U 76, U 77, U 78, U 79], []⟩) a ∧ OU 0 w1 y (List.replicate (l.length + j) M) ∧ RU w1 (.slice q l.length c) (List.replicate l.length M) ∧ (y.ownBlock = (Value.slice q l.length c).ownBlock ∨ ∃ g, y.ownBlock = some g ∧ w.heap.size ≤ g) ∧ Mod (fun k => (Value.slice q l.length c).ownBlock = some k) w w1) 80 ⟨.slice q l.length c, isU (fun U => ⟨#[.pointer (some ⟨b, 0, none⟩), .slice q l.length c, U 2, U 3, uv M, U 5, .slice q l.length c, .int .i64 0, U 8, U 9, U 10, U 11, U 12, U 13, U 14, U 15, U 16, U 17, U 18, U 19, U 20, U 21, U 22, U 23, U 24, U 25, U 26, U 27, U 28, U 29, U 30, U 31, U 32, U 33, U 34, U 35, U 36, U 37, U 38, U 39, U 40, U 41, U 42, U 43, U 44, U 45, U 46, U 47, U 48, U 49, U 50, U 51, U 52, U 53, U 54, U 55, U 56, U 57, U 58, U 59, U 60, U 61, U 62, U 63, U 64, U 65, U 66, U 67, U 68, U 69, U 70, U 71, U 72, U 73, U 74, U 75, U 76, U 77, U 78, U 79], []⟩) rfl, HO.out, HO.out.ru, .inl rfl, HM.out⟩ ?_ ?_
    · rintro j a w1 hj ⟨y, hU, hO, hR, hyb, hm⟩
      obtain ⟨U, rfl⟩ := hU.out
      have hb1 := below_alloc1 w1 (.cells #[uv M] 58)
      have hO1 := hO.below hb1
      have hR1 := hR.below hb1
      have hlit := RU.lit w1 #[uv M] [M] 1 rfl rfl (by simp)
      have hlen : (List.replicate (l.length + j) M).length + 1 ≤ 17592186044416 := by rw [List.length_replicate]; have := HL.out; omega
      have hj' : (j : Int) < 80 := by exact_mod_cast hj
      have hj0 : (0 : Int) ≤ (j : Int) := Int.natCast_nonneg j
      have HO1 := Lib.hid hO1
      have HR1 := Lib.hid hR1
      have HLT := Lib.hid hlit
      have HLN := Lib.hid hlen
      have HM1 := Lib.hid hm
      have HYB := Lib.hid hyb
      have HB1 := Lib.hid hb1
      clear hU hO hR hyb hm hb1 hO1 hR1 hlit hlen
      go_wp2_with (first | (at_builtin; refine wpList_append_word (v := y) rfl (.tmp 56) (.tmp 58) rfl rfl rfl rfl HO1.out HLT.out HLN.out (Nat.zero_le _) ?_; intro y2 w2 hO2 hg2 hat2 hsame2) | fail)
      rw [← List.replicate_succ', Nat.add_assoc] at hO2
      have hsz1 : w.heap.size ≤ (w1.alloc (.cells #[uv M] 58)).heap.size := Nat.le_trans HM1.out.size HB1.out.size
      have hR2 : RU w2 (.slice q l.length c) (List.replicate l.length M) := by
        refine HR1.out.keepAt HQ.out hg2.size fun g i eg hi hlt => ?_
        by_cases e : y.ownBlock = some g
        · exact hsame2 g i e (by simp at hi ⊢; omega)
        · exact World.cell?_of_block (hg2.block g hlt (fun e' => e e'.symm))
      refine ⟨y2, isU (fun U => ⟨#[.pointer (some ⟨b, 0, none⟩), .slice q l.length c, U 2, U 3, uv M, U 5, y2, .int .i64 (j + 1 : Nat), U 8, U 9, U 10, U 11, U 12, U 13, U 14, U 15, U 16, U 17, U 18, U 19, U 20, U 21, U 22, U 23, U 24, U 25, U 26, U 27, U 28, U 29, U 30, U 31, U 32, U 33, U 34, U 35, U 36, U 37, U 38, U 39, U 40, U 41, U 42, U 43, U 44, U 45, U 46, U 47, U 48, U 49, U 50, U 51, U 52, U 53, U 54, U 55, U 56, U 57, U 58, U 59, U 60, U 61, U 62, U 63, U 64, U 65, U 66, U 67, U 68, U 69, U 70, U 71, U 72, U 73, U 74, U 75, U 76, U 77, U 78, U 79], []⟩) rfl, hO2, hR2, ?_, ?_⟩
      · rcases hat2 with e | e
        · rw [e]; exact HYB.out
        · exact .inr ⟨_, e, hsz1⟩
      · refine HM1.out.trans' ((Mod.of_below HB1.out).trans (Mod.grown hg2 fun k e _ => ?_))
        rcases HYB.out with e1 | ⟨g, e1, hg⟩
        · exact .inl (e1 ▸ e)
        · rw [e1] at e; injection e with e; exact .inr (by omega)
    · rintro a w1 ⟨y, hU, hO, hR, hyb, hm⟩
      obtain ⟨U, rfl⟩ := hU.out
      have hb := HB.out
      have nf : ∀ k, (k = b ∨ v0.ownBlock = some k) → ¬ (Value.slice q l.length c).ownBlock = some k := fun k e e' => by
        have := HXN.out k e'
        rcases e with e | e
        · exact this.1 e
        · exact this.2 e
      have hblk := hb.blk.mod hm (nf b (.inl rfl))
      have hr0 := hb.r0.mod hm (fun g e => nf g (.inr e))
      have hvb : ∀ g, v0.ownBlock = some g → g ≠ b := fun g e e' => by have h1 := hb.t0 g e; rw [e', hb.tb] at h1; cases h1
      have hvlt := fun g e => ((hb.r0.lt g e).2 : g < w.heap.size)
      have c0 := hblk.cell (i := 0) rfl
      have hba := below_alloc1 w1 (.cells #[Value.slice q l.length c] 22)
      have hra := hr0.mod (F := fun _ => False) (Mod.of_below hba) (fun _ _ => id)
      have hlen0 : K0.length + 1 ≤ 5864062014805 := by have := HN.out; omega
      rw [e0] at c0
      have HBK := Lib.hid hblk
      have HR0 := Lib.hid hra
      have HBA := Lib.hid hba
      have HM1 := Lib.hid hm
      have HYB := Lib.hid hyb
      have HO1 := Lib.hid hO
      have HR1 := Lib.hid hR
      have HL0 := Lib.hid hlen0
      have HNF := Lib.hid nf
      have HVB := Lib.hid hvb
      have HVL := Lib.hid hvlt
      clear hb nf hblk hr0 hba hra hm hyb hO hR hlen0 hvb hvlt
      obtain ⟨yp, yc, hy⟩ := HO1.out.ru.form
      obtain ⟨yn, hyn⟩ : ∃ yn, yn = (List.replicate (l.length + 80) M).length := ⟨_, rfl⟩
      rw [← hyn] at hy
      have HY := Lib.hid hy
      clear hyn
      subst hy
      go_upto_region 14 with (first
        | (at_builtin
           refine wpList_append_VU (v := v0) rfl (.tmp 64) (.tmp 66) rfl rfl w1.heap.size e0.symm rfl HR0.out (cell_one _ _ _) rfl HL0.out (Nat.zero_le _) ?_
           intro u2 w2 hu2 hg2 hat2
           have hblk2 : Rw w2 b 31 [v0, .bool false, v2, v3] := (HBK.out.below HBA.out).mod (F := fun k => v0.ownBlock = some k) (Mod.grown hg2 fun k e _ => e) (fun e => HVB.out b e rfl)
           have c2 := hblk2.cell (i := 0) rfl
           have f2 := hblk2.frozen 0
           have HU2 := Lib.hid hu2
           have HG2 := Lib.hid hg2
           have HA2 := Lib.hid hat2
           have HB2 := Lib.hid hblk2
           obtain ⟨p2, cp2, eu2⟩ := hu2.form
           clear hu2 hg2 hat2 hblk2
           rw [List.length_append, List.length_singleton] at eu2
           have EU2 := Lib.hid eu2
           rw [eu2])
        | fail)
      have hx1 : (w1.alloc (.cells #[Value.slice q l.length c] 22)).heap.size = w1.heap.size + 1 := by simp
      have hws : w.heap.size ≤ w1.heap.size := HM1.out.size
      have hu2b : ∀ g, u2.ownBlock = some g → v0.ownBlock = some g ∨ w1.heap.size < g := fun g e => by
        rcases HA2.out with e1 | e1
        · exact .inl (e1 ▸ e)
        · rw [e1, hx1] at e; injection e with e; exact .inr (by omega)
      have hu2n : ∀ g, u2.ownBlock = some g → g ≠ b := fun g e e' => by
        rcases hu2b g e with e1 | e1
        · exact HVB.out g e1 e'
        · omega
      have hyn : ∀ g, (Value.slice yp yn yc).ownBlock = some g → g ≠ b ∧ v0.ownBlock ≠ some g := fun g e => by
        rcases HYB.out with e1 | ⟨g', e1, hg⟩
        · exact HXN.out g (e1 ▸ e)
        · rw [e1] at e; injection e with e
          exact ⟨by omega, fun e2 => by have := HVL.out g e2; omega⟩
      have hylt : ∀ g, (Value.slice yp yn yc).ownBlock = some g → g < w1.heap.size := fun g e => (HO1.out.lt g e).2
      have hblk3 := HB2.out.set 0 u2
      have hu3 : VU 0 (w2.setCell ⟨b, 0, none⟩ u2) u2 (K0 ++ [Value.slice q l.length c]) := HU2.out.mod (F := fun k => k = b) (Mod.setCell _ _ _ _ rfl) hu2n
      have hm3 : Mod (fun k => k = b ∨ v0.ownBlock = some k) w1 (w2.setCell ⟨b, 0, none⟩ u2) :=
        (Mod.of_below HBA.out).trans ((Mod.grown HG2.out fun k e _ => .inr e).trans (Mod.setCell _ _ _ _ (.inl rfl)))
      have hO3 := HO1.out.mod hm3 (fun g e e' => by
        rcases e' with e' | e'
        · exact (hyn g e).1 e'
        · exact (hyn g e).2 e')
      have hR3 := HR1.out.mod hm3 (fun _ g e e' => HNF.out g e' e)
      have hlen3 : (K0 ++ [Value.slice q l.length c]).length + 1 ≤ 5864062014805 := by have := HN.out; rw [List.length_append, List.length_singleton]; omega
      rw [← EU2.out] 
      have c3 := hblk3.cell (i := 0) rfl
      obtain ⟨w3, hw3⟩ : ∃ w3, w3 = w2.setCell ⟨b, 0, none⟩ u2 := ⟨_, rfl⟩
      rw [← hw3] at hblk3 hu3 hm3 hO3 hR3 c3 ⊢
      have hba3 := below_alloc1 w3 (.cells #[Value.slice yp yn yc] 22)
      have hra3 := hu3.mod (F := fun _ => False) (Mod.of_below hba3) (fun _ _ => id)
      have HBK3 := Lib.hid hblk3
      have HBA3 := Lib.hid hba3
      have HRA3 := Lib.hid hra3
      have HO3 := Lib.hid hO3
      have HR3 := Lib.hid hR3
      have HL3 := Lib.hid hlen3
      have HM3 := Lib.hid hm3
      have HYN := Lib.hid hyn
      have HYL := Lib.hid hylt
      have HUB := Lib.hid hu2b
      have HUN := Lib.hid hu2n
      have HWS := Lib.hid hws
      rw [eu2] at c3
      clear hblk3 hu3 hm3 hO3 hR3 hlen3 hw3 hba3 hra3 hyn hylt hu2b hu2n hx1 hws c2 f2 c0
      go_wp2_with (first
        | (at_builtin
           refine wpList_append_VU (v := u2) rfl (.tmp 74) (.tmp 76) rfl rfl w3.heap.size EU2.out.symm rfl HRA3.out (cell_one _ _ _) rfl HL3.out (Nat.zero_le _) ?_
           intro u4 w4 hu4 hg4 hat4
           have hblk4 : Rw w4 b 31 [u2, .bool false, v2, v3] := (HBK3.out.below HBA3.out).mod (F := fun k => u2.ownBlock = some k) (Mod.grown hg4 fun k e _ => e) (fun e => HUN.out b e rfl)
           have c4 := hblk4.cell (i := 0) rfl
           have f4 := hblk4.frozen 0
           have HU4 := Lib.hid hu4
           have HG4 := Lib.hid hg4
           have HA4 := Lib.hid hat4
           have HB4 := Lib.hid hblk4
           obtain ⟨p4, cp4, eu4⟩ := hu4.form
           clear hu4 hg4 hat4 hblk4
           rw [List.length_append, List.length_append, List.length_singleton, List.length_singleton] at eu4
           have EU4 := Lib.hid eu4
           rw [eu4])
        | fail)
      go_end0
      rw [← EU4.out]
      refine ⟨rfl, ?_⟩
      obtain ⟨w5, hw5⟩ : ∃ w5, w5 = w4.setCell ⟨b, 0, none⟩ u4 := ⟨_, rfl⟩
      have hb := HB.out
      have hs3 : (w3.alloc (.cells #[Value.slice yp yn yc] 22)).heap.size = w3.heap.size + 1 := by simp
      have hw13 : w1.heap.size ≤ w3.heap.size := HM3.out.size
      have hu4b : ∀ g, u4.ownBlock = some g → u2.ownBlock = some g ∨ w3.heap.size < g := fun g e => by
        rcases HA4.out with e1 | e1
        · exact .inl (e1 ▸ e)
        · rw [e1, hs3] at e; injection e with e; exact .inr (by omega)
      have hu4n : ∀ g, u4.ownBlock = some g → g ≠ b := fun g e e' => by
        rcases hu4b g e with e1 | e1
        · exact HUN.out g e1 e'
        · have := HWS.out; omega
      have hm5 : Mod (fun k => k = b ∨ v0.ownBlock = some k ∨ w1.heap.size ≤ k) w3 w5 := by
        rw [hw5]
        refine (Mod.of_below HBA3.out).trans ((Mod.grown HG4.out fun k e _ => ?_).trans (Mod.setCell _ _ _ _ (.inl rfl)))
        rcases HUB.out k e with e1 | e1
        · exact .inr (.inl e1)
        · exact .inr (.inr (by omega))
      have hm15 : Mod (fun k => k = b ∨ v0.ownBlock = some k) w1 w5 := HM3.out.trans' (hm5.mono fun k _ e => by
        rcases e with e | e | e
        · exact .inl (.inl e)
        · exact .inl (.inr e)
        · exact .inr e)
      have hmw : Mod (fun k => k = b ∨ v0.ownBlock = some k ∨ (Value.slice q l.length c).ownBlock = some k) w w5 :=
        (HM1.out.mono fun k _ e => .inr (.inr e)).trans (hm15.mono fun k _ e => e.elim .inl fun e => .inr (.inl e))
      have hu5 : VU 0 w5 u4 (K0 ++ [Value.slice q l.length c, Value.slice yp yn yc]) := by
        rw [hw5]
        have := HU4.out.mod (F := fun k => k = b) (Mod.setCell w4 b 0 u4 rfl) hu4n
        rwa [List.append_assoc] at this
      have hblk5 : Rw w5 b 31 [u4, .bool false, v2, v3] := by rw [hw5]; exact HB4.out.set 0 u4
      have hylt := HYL.out
      have hnot : ∀ g, ((Value.slice yp yn yc).ownBlock = some g ∨ (Value.slice q l.length c).ownBlock = some g) → g < w1.heap.size → ¬ (g = b ∨ v0.ownBlock = some g) := fun g e hg e' => by
        rcases e with e | e
        · rcases e' with e' | e'
          · exact (HYN.out g e).1 e'
          · exact (HYN.out g e).2 e'
        · exact HNF.out g e' e
      have hO5 : OU 0 w5 (Value.slice yp yn yc) (List.replicate (l.length + 80) M) := HO1.out.mod hm15 fun g e => hnot g (.inl e) (hylt g e)
      have hxl : ∀ g, (Value.slice q l.length c).ownBlock = some g → g < w1.heap.size := fun g e => by have := (HXB.out g e).1; have := HWS.out; omega
      have hR5 : RU w5 (Value.slice q l.length c) (List.replicate l.length M) := HR1.out.mod hm15 fun _ g e => hnot g (.inr e) (hxl g e)
      rw [← hw5]
      rw [HM0.out] at hO5 hR5
      have h0 : u4.ownBlock = v0.ownBlock ∨ ∃ g, u4.ownBlock = some g ∧ w.heap.size ≤ g ∧ (Value.slice yp yn yc).ownBlock ≠ some g := by
        rcases HA4.out with e1 | e1
        · rcases HA2.out with e2 | e2
          · exact .inl (e1.trans e2)
          · refine .inr ⟨_, e1.trans e2, Nat.le_trans HWS.out HBA.out.size, fun e => ?_⟩
            have h1 := hylt _ e
            have h2 := HBA.out.size
            omega
        · refine .inr ⟨_, e1, Nat.le_trans (Nat.le_trans HWS.out hw13) HBA3.out.size, fun e => ?_⟩
          have h1 := hylt _ e
          have h2 := HBA3.out.size
          omega
      obtain ⟨own', h1, h2⟩ := hb.full (x := Value.slice q l.length c) (y := Value.slice yp yn yc) HXB.out hmw hblk5 hu5 h0 hR5 hO5 HYB.out
      refine ⟨own', ⟨u4, v2, v3, _, _, _, _, h1, by simp, rfl⟩, h2, hmw.mono fun k hk e => ?_⟩
      rcases e with e | e | e
      · exact .inl (by rw [e, hb.tb]; decide)
      · exact .inl (by rw [hb.t0 k e]; decide)
      · exact .inr e
end Go.Proofs.YtckbckdaffdjmaaDoor
