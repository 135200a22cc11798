/- The Book: marks go into a list, and behind it. (Printed by wip/w7gen/mkbk.py.) -/
import Derived.Test.YtbgfoobcpacfeaaDoorPk8
import Derived.Test.YtbgfoobcpacfeaaDoorBkLib
namespace Go.Proofs.YtbgfoobcpacfeaaDoor
open Go.RowKit
set_option maxRecDepth 100000
set_option linter.unusedVariables false
set_option linter.unusedSimpArgs false
/-- Behind i marks. -/
def WrI (w : World) (r B p n cap : Nat) (q : Option Addr) (b : UInt8) (own : Nat → Nat) (v : Nat → Value) (V : Nat → List Value) (z : Int) (i : Nat) (a : Act) (w' : World) : Prop :=
  ∃ l : List UInt8, (∃ U : Nat → Value, a = ⟨#[.pointer (some ⟨r, 0, none⟩), .slice q n cap, U 2, U 3, .int .u8 (b.toNat : Int), .int .i64 i, U 6, U 7, U 8, U 9, U 10, U 11, U 12, U 13, U 14, U 15, U 16, U 17, U 18, U 19, U 20, U 21, U 22, U 23, U 24, U 25, U 26, U 27, U 28, U 29, U 30, U 31, U 32, U 33, U 34, U 35, U 36, U 37, U 38, U 39, U 40, U 41, U 42, U 43, U 44, U 45, U 46, U 47, U 48, U 49, U 50, U 51, U 52, U 53, U 54, U 55, U 56, U 57, U 58, U 59, U 60, U 61, U 62, U 63, U 64, U 65, U 66, U 67, U 68, U 69, U 70, U 71, U 72, U 73, U 74, U 75, U 76, U 77, U 78, U 79, U 80, U 81, U 82, U 83, U 84], []⟩) ∧ l.length = n ∧ OB B w' (.slice q n cap) l ∧ Bk w' r B own v V z ∧ Chg own (fun t => t == 1 || t == p) w w'
/-- Behind j marks that were appended. -/
def WrJ (w : World) (r B p n cap : Nat) (q : Option Addr) (l : List UInt8) (b : UInt8) (own : Nat → Nat) (v : Nat → Value) (V : Nat → List Value) (z : Int) (j : Nat) (a : Act) (w' : World) : Prop :=
  ∃ gv t, (∃ U : Nat → Value, a = ⟨#[.pointer (some ⟨r, 0, none⟩), .slice q n cap, U 2, U 3, .int .u8 (b.toNat : Int), U 5, gv, .int .i64 j, U 8, U 9, U 10, U 11, U 12, U 13, U 14, U 15, U 16, U 17, U 18, U 19, U 20, U 21, U 22, U 23, U 24, U 25, U 26, U 27, U 28, U 29, U 30, U 31, U 32, U 33, U 34, U 35, U 36, U 37, U 38, U 39, U 40, U 41, U 42, U 43, U 44, U 45, U 46, U 47, U 48, U 49, U 50, U 51, U 52, U 53, U 54, U 55, U 56, U 57, U 58, U 59, U 60, U 61, U 62, U 63, U 64, U 65, U 66, U 67, U 68, U 69, U 70, U 71, U 72, U 73, U 74, U 75, U 76, U 77, U 78, U 79, U 80, U 81, U 82, U 83, U 84], []⟩) ∧ t.length = j ∧ OB B w' gv (l ++ t) ∧ RB w' (.slice q n cap) l ∧ Bk w' r B own v V z ∧ (∀ k, gv.ownBlock = some k → own k = p) ∧ Chg own (fun t => t == 1 || t == p) w w'

/-- Where 'write' leaves the world. -/
def BwPost (W : World) (r B : Nat) (own : Nat → Nat) (vA : Nat → Value) (VA : Nat → List Value) (L : List (List UInt8)) (p : Nat) (w' : World) : Prop := ∃ own' v' V' m' L', Bk w' r B own' v' V' m' ∧ v' 0 = vA 0 ∧ v' 1 = vA 1 ∧ V' 0 = VA 0 ∧ V' 1 = VA 1 ∧ Settled own' w' (V' 2) L' ∧ Settled own' w' (V' 3) L' ∧ L'.length = L.length + 2 ∧
      Chg own (fun t => t == 1 || t == 4 || t == 5 || t == p) W w' ∧ ∀ k, k < W.heap.size → own' k = if own k = p then 9 else own k

set_option maxHeartbeats 8000000 in
theorem bwrite_calls {W : World} {r B : Nat} {own : Nat → Nat} {vA : Nat → Value} {VA : Nat → List Value} {m0 : Int} (h : Bk W r B own vA VA m0) (hBW : B ≤ W.heap.size) {lv : Value} {l : List UInt8} (hl : OB B W lv l) (hll : l.length + 80 ≤ 140737488355328) {p : Nat} (hp6 : 6 ≤ p) (hp9 : p ≠ 9) (hp : ∀ k, lv.ownBlock = some k → own k = p) {L : List (List UInt8)} (hK : Settled own W (VA 2) L) (hT : Settled own W (VA 3) L) (hlen : L.length + 4 ≤ 4294967296) :
    Calls Tryd.prog 56 #[.pointer (some ⟨r, 0, none⟩), lv] W fun e w' => e = .returned (.tuple #[]) ∧ BwPost W r B own vA VA L p w' := by
  obtain ⟨v, hvA⟩ : ∃ x : Nat → Value, x = vA := ⟨_, rfl⟩
  obtain ⟨V, hVA⟩ : ∃ x : Nat → List Value, x = VA := ⟨_, rfl⟩
  have ev0 : v 0 = vA 0 := by rw [hvA]
  have ev1 : v 1 = vA 1 := by rw [hvA]
  have eV0 : V 0 = VA 0 := by rw [hVA]
  have eV1 : V 1 = VA 1 := by rw [hVA]
  obtain ⟨K0, hK0⟩ : ∃ x, x = V 2 := ⟨_, rfl⟩
  obtain ⟨T0, hT0⟩ : ∃ x, x = V 3 := ⟨_, rfl⟩
  rw [← hVA, ← hvA] at h
  rw [← hVA, ← hK0] at hK
  rw [← hVA, ← hT0] at hT
  clear hvA hVA
  obtain ⟨own0, ho0⟩ : ∃ o : Nat → Nat, o = fun k => if k < W.heap.size then own k else p := ⟨_, rfl⟩
  have k0 : ∀ k, k < W.heap.size → own0 k = own k := fun k hk => by rw [ho0]; simp [hk]
  have kn : ∀ k, W.heap.size ≤ k → own0 k = p := fun k hk => by rw [ho0]; simp [Nat.not_lt.2 hk]
  replace h := h.retag (own' := own0) k0
  replace hp : ∀ k, lv.ownBlock = some k → own0 k = p := fun k e => (k0 k (hl.lt k e).2).trans (hp k e)
  replace hK := hK.step (own' := own0) (S := fun _ => false) (Chg.refl _ _ _) rfl k0
  replace hT := hT.step (own' := own0) (S := fun _ => false) (Chg.refl _ _ _) rfl k0
  have hs1 : ∀ t, 6 ≤ t → (t == 1) = false := fun t ht => by simp; omega
  have hsp : ∀ t, 1 ≤ t → t < 6 → (t == p) = false := fun t _ ht => by simp; omega
  have h9p : (9 == p) = false := by simp; omega
  clear ho0
  obtain ⟨q, cap, hlv⟩ := hl.rb.form
  have hq0 : ∀ g o, q = some ⟨g, o, none⟩ → l ≠ [] → o = 0 := fun g o e hne => by
    obtain ⟨g', cap', e', _⟩ := hl.form hne
    rw [hlv, e] at e'
    injection e' with e'
    injection e' with e'
    injection e'
  obtain ⟨n, hn⟩ : ∃ n, l.length = n := ⟨_, rfl⟩
  rw [hn] at hlv hll
  subst hlv
  have hls : ∀ k, (Value.slice q n cap).ownBlock = some k → k < W.heap.size := fun k e => (hl.lt k e).2
  have hrl := h.lt
  have hc4 : W.cell? ⟨r, 4, none⟩ = some (.int .i64 m0) := bk_cell (cs := [v 0, v 1, v 2, v 3, .int .i64 m0]) h.blk 4 _ rfl
  have hfz : W.frozen? ⟨r, 4, none⟩ = false := by simp [World.frozen?, h.blk]
  obtain ⟨m, hz⟩ : ∃ m, IntKind.i64.wrap (m0 + 1) = m := ⟨_, rfl⟩
  obtain ⟨b, hzb⟩ := byte_of m
  obtain ⟨hM, hCm⟩ := h.mark m
  replace hl : OB B (W.setCell ⟨r, 4, none⟩ (.int .i64 m)) (.slice q n cap) l := hl.chg hCm (fun k e => by rw [hp k e]; exact hs1 p hp6)
  replace hM : Bk (W.setCell ⟨r, 4, none⟩ (.int .i64 m)) r B own0 v V m := hM
  replace hCm : Chg own0 (fun t => t == 1) W (W.setCell ⟨r, 4, none⟩ (.int .i64 m)) := hCm
  replace hK := hK.step hCm rfl (fun _ _ => rfl)
  replace hT := hT.step hCm rfl (fun _ _ => rfl)
  have hC1 : Chg own0 (fun t => t == 1 || t == p) W (W.setCell ⟨r, 4, none⟩ (.int .i64 m)) := hCm.mono (fun t h => by simp only [Bool.or_eq_false_iff] at h; exact h.1)
  have hlk : ∀ k, (Value.slice q n cap).ownBlock = some k → k < W.heap.size := hls
  clear h hCm
  go_enter Tryd.func56, Tryd.ntmps56
  go_wp2_with fail
  show Code.wp _ _ _ _ (W.setCell ⟨r, 4, none⟩ (.int .i64 m))
  clear hc4 hfz hz hzb
  have hW1 : W.heap.size ≤ (W.setCell ⟨r, 4, none⟩ (.int .i64 m)).heap.size := hC1.size
  generalize W.setCell ⟨r, 4, none⟩ (.int .i64 m) = w1 at *
  have hK1 : ∀ w', Chg own0 (fun t => t == 1 || t == p) w1 w' → Settled own0 w' K0 L ∧ Settled own0 w' T0 L := fun w' hc => ⟨hK.step hc (by simp; omega) (fun _ _ => rfl), hT.step hc (by simp; omega) (fun _ _ => rfl)⟩
  refine wp_loop_count (WrI w1 r B p n cap q b own0 v V m) n ⟨l, exU (fun U => ⟨#[.pointer (some ⟨r, 0, none⟩), .slice q n cap, U 2, U 3, .int .u8 (b.toNat : Int), .int .i64 0, U 6, U 7, U 8, U 9, U 10, U 11, U 12, U 13, U 14, U 15, U 16, U 17, U 18, U 19, U 20, U 21, U 22, U 23, U 24, U 25, U 26, U 27, U 28, U 29, U 30, U 31, U 32, U 33, U 34, U 35, U 36, U 37, U 38, U 39, U 40, U 41, U 42, U 43, U 44, U 45, U 46, U 47, U 48, U 49, U 50, U 51, U 52, U 53, U 54, U 55, U 56, U 57, U 58, U 59, U 60, U 61, U 62, U 63, U 64, U 65, U 66, U 67, U 68, U 69, U 70, U 71, U 72, U 73, U 74, U 75, U 76, U 77, U 78, U 79, U 80, U 81, U 82, U 83, U 84], []⟩) rfl, hn, hl, hM, Chg.refl _ _ _⟩ ?_ ?_
  · clear hl hM hK hT hK1 hC1
    rintro i a w' hi ⟨l', ⟨U, rfl⟩, hlen', ho, hB', hC⟩
    obtain ⟨c, hc⟩ : ∃ c, l'[i]? = some c := ⟨l'[i], List.getElem?_eq_getElem (by omega)⟩
    obtain ⟨g, cap', e, _, hg1, _, _, hcell, hfr⟩ := ho.form (by intro e; subst e; simp at hlen'; omega)
    simp only [Value.slice.injEq] at e
    obtain ⟨rfl, -, rfl⟩ := e
    have hcl := hcell i c hc
    have hfz := hfr i
    obtain ⟨y, hy⟩ := byte_of (i : Int)
    have hx : bits .xor .u8 (b.toNat : Int) (y.toNat : Int) = (((b ^^^ y : UInt8).toNat : Nat) : Int) := by
      rw [UInt8.toNat_xor]; exact u8_xor_nat b.toNat y.toNat (by have := b.toNat_lt; omega) (by have := y.toNat_lt; omega)
    have hst := ho.store i (b ^^^ y)
    have hgp : own0 g = p := hp g rfl
    have hi' : (i : Int) < (n : Int) := by exact_mod_cast hi
    have hi0 : (0 : Int) ≤ (i : Int) := Int.natCast_nonneg i
    have Hst := Lib.hid hst
    have Hlen := Lib.hid hlen'
    clear hcell hfr hst hc hlen'
    go_wp2_with fail
    have hCs : Chg own0 (fun t => t == p) w' (w'.setCell ⟨g, i, none⟩ (bv (b ^^^ y))) := Chg.of Hst.out.2 fun k e _ => by injection e with e; subst e; simp [hgp]
    exact ⟨l'.set i (b ^^^ y), exU (fun U => ⟨#[.pointer (some ⟨r, 0, none⟩), .slice (some ⟨g, 0, none⟩) n cap, U 2, U 3, .int .u8 (b.toNat : Int), .int .i64 (i + 1 : Nat), U 6, U 7, U 8, U 9, U 10, U 11, U 12, U 13, U 14, U 15, U 16, U 17, U 18, U 19, U 20, U 21, U 22, U 23, U 24, U 25, U 26, U 27, U 28, U 29, U 30, U 31, U 32, U 33, U 34, U 35, U 36, U 37, U 38, U 39, U 40, U 41, U 42, U 43, U 44, U 45, U 46, U 47, U 48, U 49, U 50, U 51, U 52, U 53, U 54, U 55, U 56, U 57, U 58, U 59, U 60, U 61, U 62, U 63, U 64, U 65, U 66, U 67, U 68, U 69, U 70, U 71, U 72, U 73, U 74, U 75, U 76, U 77, U 78, U 79, U 80, U 81, U 82, U 83, U 84], []⟩) rfl, by simpa using Hlen.out, Hst.out.1, hB'.chg hCs (fun t h1 h2 => hsp t h1 h2), hC.trans (hCs.mono (fun t h => by simp only [Bool.or_eq_false_iff] at h; exact h.2)) (fun _ _ h => h)⟩
  · clear hl hM
    rintro a w2 ⟨l1, ⟨U, rfl⟩, hlen1, ho1, hB1, hC2⟩
    have hq1 : ∀ g o, q = some ⟨g, o, none⟩ → l1 ≠ [] → o = 0 := fun g o e hne => hq0 g o e (fun e' => by rw [e'] at hn; simp at hn; rw [← hn] at hlen1; exact hne (List.eq_nil_of_length_eq_zero hlen1))
    clear hq0 hn hK hT
    go_wp2_with fail
    refine wp_loop_count (WrJ w1 r B p n cap q l1 b own0 v V m) 80 ⟨.slice q n cap, [], exU (fun U => ⟨#[.pointer (some ⟨r, 0, none⟩), .slice q n cap, U 2, U 3, .int .u8 (b.toNat : Int), U 5, .slice q n cap, .int .i64 0, U 8, U 9, U 10, U 11, U 12, U 13, U 14, U 15, U 16, U 17, U 18, U 19, U 20, U 21, U 22, U 23, U 24, U 25, U 26, U 27, U 28, U 29, U 30, U 31, U 32, U 33, U 34, U 35, U 36, U 37, U 38, U 39, U 40, U 41, U 42, U 43, U 44, U 45, U 46, U 47, U 48, U 49, U 50, U 51, U 52, U 53, U 54, U 55, U 56, U 57, U 58, U 59, U 60, U 61, U 62, U 63, U 64, U 65, U 66, U 67, U 68, U 69, U 70, U 71, U 72, U 73, U 74, U 75, U 76, U 77, U 78, U 79, U 80, U 81, U 82, U 83, U 84], []⟩) rfl, rfl, by rw [List.append_nil]; exact ho1, ho1.rb, hB1, hp, hC2⟩ ?_ ?_
    · clear ho1 hB1 hC2 hK1
      rintro j a w' hj ⟨gv, t, ⟨U, rfl⟩, ht, ho, hrb, hB', htag, hC⟩
      have hj80 : (j : Int) < 80 := by omega
      have hj0 : (0 : Int) ≤ (j : Int) := Int.natCast_nonneg j
      obtain ⟨b2, hb2⟩ := byte_of ((b.toNat : Int) + 101)
      have hlj : (l1 ++ t).length + 1 ≤ 140737488355328 := by rw [List.length_append]; omega
      have hlit : #[Value.int .u8 (b2.toNat : Int)] = ([b2].map bv).toArray := rfl
      have hw6 : IntKind.i64.wrap ((j : Int) + 1) = (j : Int) + 1 := IntWalk.i64_in _ ⟨by omega, by omega⟩
      have hBs : B ≤ w'.heap.size := by have := hC.size; omega
      have Hlj := Lib.hid hlj
      have Ht := Lib.hid ht
      clear hlj ht
      go_wp2_with (first
        | (at_builtin
           refine wpList_append_byte (v := gv) rfl (.tmp 38) (.tmp 41) rfl rfl rfl rfl (ho.below (below_alloc1 _ _)) (RB.lit _ _ [b2] 1 hlit rfl (by simp)) Hlj.out (by simp; omega) ?_
           intro gv' w3 ho3 hg3 hat3 hkp3)
        | fail)
      have hCg : Chg own0 (fun t => t == p) w' w3 := (Chg.below (below_alloc1 w' _)).trans (Chg.of hg3 fun k e _ => by rw [htag k e]; simp) (fun _ _ h => h)
      refine ⟨gv', t ++ [b2], exU (fun U => ⟨#[.pointer (some ⟨r, 0, none⟩), .slice q n cap, U 2, U 3, .int .u8 (b.toNat : Int), U 5, gv', .int .i64 (j + 1 : Nat), U 8, U 9, U 10, U 11, U 12, U 13, U 14, U 15, U 16, U 17, U 18, U 19, U 20, U 21, U 22, U 23, U 24, U 25, U 26, U 27, U 28, U 29, U 30, U 31, U 32, U 33, U 34, U 35, U 36, U 37, U 38, U 39, U 40, U 41, U 42, U 43, U 44, U 45, U 46, U 47, U 48, U 49, U 50, U 51, U 52, U 53, U 54, U 55, U 56, U 57, U 58, U 59, U 60, U 61, U 62, U 63, U 64, U 65, U 66, U 67, U 68, U 69, U 70, U 71, U 72, U 73, U 74, U 75, U 76, U 77, U 78, U 79, U 80, U 81, U 82, U 83, U 84], []⟩) rfl, by simp [Ht.out], by rw [← List.append_assoc]; exact ho3, ?_, hB'.chg hCg (fun t h1 h2 => hsp t h1 h2), fun k e => ?_, hC.trans (hCg.mono (fun t h => by simp only [Bool.or_eq_false_iff] at h; exact h.2)) (fun _ _ h => h)⟩
      · refine (hrb.below (below_alloc1 w' _)).kept0 hq1 hg3.size fun g i e hi => ?_
        by_cases hgg : gv.ownBlock = some g
        · exact hkp3 g i hgg (by rw [List.length_append]; omega)
        · refine World.cell?_of_block (hg3.block g ?_ (fun e' => hgg e'.symm))
          have hne : l1 ≠ [] := by intro e'; subst e'; simp at hi
          have := hrb.block hne g (by rw [e]; rfl)
          rw [World.size_alloc]
          omega
      · rcases hat3 with e3 | e3
        · exact htag k (e3 ▸ e)
        · rw [e3] at e
          injection e with e
          have := hC.size
          rw [World.size_alloc] at e
          exact kn k (by omega)
    · clear ho1 hB1 hC2
      rintro a w ⟨gv, t, ⟨U, rfl⟩, ht, ho, hrb, h, htag, hC⟩
      obtain ⟨hK, hT⟩ := hK1 w hC
      have hBw : B ≤ w.heap.size := by have := hC.size; omega
      have hlv : Lp own0 w (.slice q n cap) l1 p := ⟨hrb, fun k e => ⟨Nat.lt_of_lt_of_le (hlk k e) (Nat.le_trans hW1 hC.size), hp k e⟩⟩
      have hgv : Lp own0 w gv (l1 ++ t) p := Lp.of_ob ho htag
      have hgf : ∃ p n c, gv = .slice p n c := by obtain ⟨p, c, e⟩ := ho.rb.form; exact ⟨p, _, c, e⟩
      have hlf : ∃ p' n' c', Value.slice q n cap = .slice p' n' c' := ⟨_, _, _, rfl⟩
      have hCW : Chg own0 (fun t => t == 1 || t == 4 || t == 5 || t == p) W w := (hC1.trans hC (fun _ _ h => h)).mono (fun t h => by simp only [Bool.or_eq_false_iff] at h ⊢; exact ⟨h.1.1.1, h.2⟩)
      have hlen2 : (V 2).length + 1 ≤ 4294967296 := by rw [← hK0, hK.1]; omega
      have hlen3 : (V 3).length + 1 ≤ 4294967296 := by rw [← hT0, hT.1]; omega
      have hlenK := hK.1
      have hlenT := hT.1
      have hp4 : ∀ j, j < 4 → ((p == 1) || (p == 2 + j)) = false := fun j hj => by simp; omega
      have h94 : ∀ j, j < 4 → (((9 : Nat) == 1) || ((9 : Nat) == 2 + j)) = false := fun j hj => by simp; omega
      have hown : ∀ k, k < W.heap.size → own0 k = own k := k0
      have hWw : W.heap.size ≤ w.heap.size := hCW.size
      have E2 : V 2 = K0 := hK0.symm
      have E3 : V 3 = T0 := hT0.symm
      clear ho hrb htag hC hC1 hK1 kn k0 hq1 hlen1 hK0 hT0
      generalize l1 ++ t = l2 at *
      go_upto_region 11 with fail
      rename_i hnext
      obtain ⟨wS0, hwS⟩ : ∃ x, x = w := ⟨_, rfl⟩
      obtain ⟨vS0, hvS⟩ : ∃ x, x = v := ⟨_, rfl⟩
      obtain ⟨VS0, hVS⟩ : ∃ x, x = V := ⟨_, rfl⟩
      obtain ⟨ownS0, hoS⟩ : ∃ x, x = own0 := ⟨_, rfl⟩
      rw [← hwS, ← hvS, ← hVS, ← hoS] at h
      rw [← hwS] at hBw hlv hgv hK hT hCW hWw ⊢
      rw [← hoS] at hlv hgv hK hT hCW hown
      rw [← hvS] at ev0 ev1
      rw [← hVS] at eV0 eV1 E2 E3 hlen2 hlen3
      have hst : ∀ k, k < W.heap.size → ownS0 k = own k := hown
      clear hwS hvS hVS hoS
      refine wp_region_lit ?_
      refine Og.st_start (n := 85) rfl fun a hF => ?_
      refine Og.st_same (.pointer (some ⟨r, 0, none⟩)) hF rfl rfl (by decide) (by kernel_rfl) ?_
      clear hF a; intro a hF
      refine Og.st_same (.pointer (some ⟨r, 0, none⟩)) hF rfl rfl (by decide) (by kernel_rfl) ?_
      clear hF a; intro a hF
      refine Og.st_same (.pointer (some ⟨r, 0, none⟩)) hF rfl rfl (by decide) (by kernel_rfl) ?_
      clear hF a; intro a hF
      refine Og.st_same (.pointer (some ⟨r, 2, none⟩)) hF rfl rfl (by decide) (by kernel_rfl) ?_
      clear hF a; intro a hF
      refine Og.st_same (vS0 2) hF rfl rfl (by decide) (Og.exec_load rfl (h.ld (j := 2) (by decide))) ?_
      clear hF a; intro a hF
      refine Og.st_same (Value.slice q n cap) hF rfl rfl (by decide) (by kernel_rfl) ?_
      clear hF a; intro a hF
      refine Og.st_val (w' := wS0.alloc (.cells #[Value.slice q n cap] 32)) (.slice (some ⟨wS0.heap.size, 0, none⟩) 1 1) hF rfl rfl (by decide) (build_one' (u := Value.slice q n cap) rfl (by kernel_rfl) hlf wS0) ?_
      clear hF a; intro a hF
      have hba := below_alloc1 wS0 (.cells #[Value.slice q n cap] 32)
      have hxc : (wS0.alloc (.cells #[Value.slice q n cap] 32)).cell? ⟨wS0.heap.size, 0, none⟩ = some (Value.slice q n cap) := cell_one _ _ _
      have hra : VR B (wS0.alloc (.cells #[Value.slice q n cap] 32)) (vS0 2) (VS0 2) := (h.row 2 (by decide)).at_ fun k e => hba.block k ((h.row 2 (by decide)).lt k e).2
      have hx1 : Value.oneCell' (Value.slice q n cap) = true := by obtain ⟨p, q, c0, e⟩ := hlf; rw [e]; rfl
      generalize wS0.alloc (.cells #[Value.slice q n cap] 32) = wA at *
      obtain ⟨u, w1, hrun, hu, hg, hat⟩ := hra.append hxc hx1 hlen2 (Nat.le_trans hBw hba.size)
      have hk := h.kept (j := 2) (by decide) hba hg
      refine Og.st_val (w' := w1) u hF rfl rfl (by decide) (Og.exec_append rfl hrun) ?_
      clear hF a; intro a hF
      refine Og.st_same (.pointer (some ⟨r, 0, none⟩)) hF rfl rfl (by decide) (by kernel_rfl) ?_
      clear hF a; intro a hF
      refine Og.st_same (.pointer (some ⟨r, 2, none⟩)) hF rfl rfl (by decide) (by kernel_rfl) ?_
      clear hF a; intro a hF
      refine Og.st_skip (w' := w1.setCells r 2 [u]) hF rfl rfl
        (exec_store (o := 2) (vs := [u]) (cs := [vS0 0, vS0 1, vS0 2, vS0 3, .int .i64 m]) rfl rfl hu.cells1 hk (by show 2 + 1 ≤ 5; decide) lsz (slice_one _ hu.one)) ?_
      clear hF a; intro a hF
      obtain ⟨hPu, hCu⟩ := h.push (j := 2) (by decide) p hba hg hu hat
      generalize w1.setCells r 2 [u] = wS1 at *
      refine wpList_nil ?_
      obtain ⟨U, rfl⟩ := Og.Fr.lit_ex hF (fun U => ⟨#[.pointer (some ⟨r, 0, none⟩), .slice q n cap, U 2, U 3, U 4, U 5, gv, U 7, U 8, U 9, U 10, U 11, U 12, U 13, U 14, U 15, U 16, U 17, U 18, U 19, U 20, U 21, U 22, U 23, U 24, U 25, U 26, U 27, U 28, U 29, U 30, U 31, U 32, U 33, U 34, U 35, U 36, U 37, U 38, U 39, U 40, U 41, U 42, U 43, U 44, U 45, U 46, U 47, U 48, U 49, U 50, U 51, U 52, U 53, U 54, U 55, U 56, U 57, U 58, U 59, U 60, U 61, U 62, U 63, U 64, U 65, U 66, U 67, U 68, U 69, U 70, U 71, U 72, U 73, U 74, U 75, U 76, U 77, U 78, U 79, U 80, U 81, U 82, U 83, U 84], []⟩) (by kernel_rfl)
      clear hF hba hxc hra hx1 hrun hu hg hat hk wA w1
      refine hnext _ _ ?_
      clear hnext
      have hold : ∀ k, k < wS0.heap.size → ownP ownS0 wS0.heap.size u 2 p k = ownS0 k := fun k hk => ownP_old hk
      replace hlv := hlv.step hCu (hp4 2 (by decide)) hold
      replace hgv := hgv.step hCu (hp4 2 (by decide)) hold
      replace hK := hK.step hCu (h94 2 (by decide)) hold
      replace hT := hT.step hCu (h94 2 (by decide)) hold
      have hCu' : Chg ownS0 (fun t => t == 1 || t == 4 || t == 5 || t == p) wS0 wS1 := hCu.mono (fun t h => by simp only [Bool.or_eq_false_iff] at h ⊢; exact ⟨h.1.1.1, h.1.1.2⟩)
      replace hCW := hCW.trans hCu' (fun k hk h => by rw [show ownS0 k = own k from hown k hk]; rw [← hst k hk]; exact h)
      replace hown : ∀ k, k < W.heap.size → ownP ownS0 wS0.heap.size u 2 p k = own k := fun k hk => (hold k (by omega)).trans (hown k hk)
      replace hBw : B ≤ wS1.heap.size := Nat.le_trans hBw hCu.size
      replace hWw : W.heap.size ≤ wS1.heap.size := Nat.le_trans hWw hCu.size
      obtain ⟨vS1, hvk⟩ : ∃ x : Nat → Value, x = fup vS0 2 u := ⟨_, rfl⟩
      obtain ⟨VS1, hVk⟩ : ∃ x : Nat → List Value, x = fup VS0 2 (VS0 2 ++ [Value.slice q n cap]) := ⟨_, rfl⟩
      rw [← hvk, ← hVk] at hPu
      replace ev0 : vS1 0 = vA 0 := by rw [hvk]; exact ev0
      replace ev1 : vS1 1 = vA 1 := by rw [hvk]; exact ev1
      replace eV0 : VS1 0 = VA 0 := by rw [hVk]; exact eV0
      replace eV1 : VS1 1 = VA 1 := by rw [hVk]; exact eV1
      replace E2 : VS1 2 = K0 ++ [Value.slice q n cap] := by rw [hVk, fup_at, E2]
      replace E3 : VS1 3 = T0 := by rw [hVk, fup_ne _ _ (by decide), E3]
      replace hlen2 : (VS1 2).length + 1 ≤ 4294967296 := by rw [E2]; simp; omega
      replace hlen3 : (VS1 3).length + 1 ≤ 4294967296 := by rw [E3]; simp; omega
      generalize ownP ownS0 wS0.heap.size u 2 p = ownS1 at *
      replace h := hPu
      clear hPu hvk hVk hCu hCu' hold u
      go_upto_region 12 with fail
      rename_i hnext
      obtain ⟨G, hG⟩ : ∃ G, G = wS1.heap.size := ⟨_, rfl⟩
      have hrG : r < G := by rw [hG]; exact h.lt
      have hjG : ∀ k, (vS1 3).ownBlock = some k → k < G := fun k e => by rw [hG]; exact ((h.row 3 (by decide)).lt k e).2
      have hjr : ∀ k, (vS1 3).ownBlock = some k → k ≠ r := fun k e => h.ne (by decide) e
      have hBG : B ≤ G := by rw [hG]; exact hBw
      refine Og.wp_region_og _ (fun i => i == 11)
        (Og.Vt [.pointer (some ⟨r, 0, none⟩), .pointer (some ⟨r, 0, none⟩), .pointer (some ⟨r, 0, none⟩), .pointer (some ⟨r, 3, none⟩), vS1 3, Value.slice q n cap, undef, undef, undef, .pointer (some ⟨r, 0, none⟩), .pointer (some ⟨r, 3, none⟩), undef] [(6, fun u w' => OB G w' u (l1)), (7, fun u w' => ∃ ad c1, u = .slice (some ⟨ad, 0, none⟩) 1 1 ∧ G ≤ ad ∧ ad < w'.heap.size ∧ w'.cell? ⟨ad, 0, none⟩ = some c1 ∧ OB G w' c1 (l1)), (8, fun u w' => ∃ c1, VR B w' u (VS1 3 ++ [c1]) ∧ OB G w' c1 (l1) ∧ (u.ownBlock = (vS1 3).ownBlock ∨ ∀ k, u.ownBlock = some k → G ≤ k ∧ c1.ownBlock ≠ some k)), (11, fun _ w' => ∃ u c1, w'.heap[r]? = some (.cells (setAll [vS1 0, vS1 1, vS1 2, vS1 3, .int .i64 m] 3 [u]).toArray 65 (0, 0)) ∧ VR B w' u (VS1 3 ++ [c1]) ∧ OB G w' c1 (l1) ∧ (u.ownBlock = (vS1 3).ownBlock ∨ ∀ k, u.ownBlock = some k → G ≤ k ∧ c1.ownBlock ≠ some k))])
        (fun w' => Chg ownS1 (fun t => t == 1 || t == 2 + 3) wS1 w')
        (fun i w' => (i = 4 ∨ i = 11 → w'.heap[r]? = some (.cells [vS1 0, vS1 1, vS1 2, vS1 3, .int .i64 m].toArray 65 (0, 0))) ∧ (i = 8 → VR B w' (vS1 3) (VS1 3))) 85 rfl (by kernel_rfl) (by kernel_rfl) (Chg.below (Below.drew (Below.refl _ _))) (fun _ _ => ⟨fun _ => h.blk, fun _ => (h.row 3 (by decide)).at_ fun _ _ => rfl⟩) (Og.allOps ⟨?_, ?_, ?_, ?_, ?_, ?_, ?_, ?_, ?_, ?_, ?_, ?_, trivial⟩) ?_
      · refine Og.ok_val _ rfl rfl fun φ w2 hA => ?_
        have e1 : φ 0 = .pointer (some ⟨r, 0, none⟩) := hA.old 0 (by kernel_rfl)
        simp only [execOp, Og.ev, e1]
        go_simp
      · refine Og.ok_val _ rfl rfl fun φ w2 hA => ?_
        have e1 : φ 0 = .pointer (some ⟨r, 0, none⟩) := hA.old 0 (by kernel_rfl)
        simp only [execOp, Og.ev, e1]
        go_simp
      · refine Og.ok_val _ rfl rfl fun φ w2 hA => ?_
        have e1 : φ 54 = .pointer (some ⟨r, 0, none⟩) := hA.of 1 (d := 54) (by simp) rfl rfl
        simp only [execOp, Og.ev, e1]
        go_simp
      · refine Og.ok_val _ rfl rfl fun φ w2 hA => ?_
        have e1 : φ 55 = .pointer (some ⟨r, 0, none⟩) := hA.of 2 (d := 55) (by simp) rfl rfl
        simp only [execOp, Og.ev, e1]
        go_simp
      · refine Og.ok_val _ rfl rfl fun φ w2 hA => ?_
        have e1 : φ 56 = .pointer (some ⟨r, 3, none⟩) := hA.of 3 (d := 56) (by simp) rfl rfl
        refine Og.exec_load rfl ?_
        simp only [Og.ev, e1]
        exact h.ld' (j := 3) (by decide) (hA.tok.1 (.inl rfl))
      · refine Og.ok_val _ rfl rfl fun φ w2 hA => ?_
        have e1 : φ 1 = Value.slice q n cap := hA.old 1 (by kernel_rfl)
        simp only [execOp, Og.ev, e1]
        go_simp
      · refine Og.ok_gcall_fn _ _ _ _ ?_ ?_ ?_ rfl rfl fun φ w2 hA => ?_
        · intro y hy u' w3 w4 hu' hbb
          simp only [List.mem_cons, List.not_mem_nil, or_false] at hy
          rcases hy with rfl | rfl | rfl | rfl
          · exact hu'.below hbb
          · obtain ⟨ad, c1, e, h1, h2, h3, h4⟩ := hu'; exact ⟨ad, c1, e, h1, Nat.lt_of_lt_of_le h2 hbb.size, ((bcell hbb).1 ad 0 h2).trans h3, h4.below hbb⟩
          · obtain ⟨c1, h1, h2, h3⟩ := hu'; exact ⟨c1, h1.at_ fun k e => hbb.block k (h1.lt k e).2, h2.below hbb, h3⟩
          · obtain ⟨u1, c1, h0, h1, h2, h3⟩ := hu'; exact ⟨u1, c1, blk_below h0 hbb, h1.at_ fun k e => hbb.block k (h1.lt k e).2, h2.below hbb, h3⟩
        · exact fun w3 w4 hR hbb => hR.trans (Chg.below hbb) (fun _ _ h => h)
        · exact fun i w3 w4 hT hbb => ⟨fun e => blk_below (hT.1 e) hbb, fun e => (hT.2 e).at_ fun k ek => hbb.block k ((hT.2 e).lt k ek).2⟩
        · have e1 : φ 58 = Value.slice q n cap := hA.of 5 (d := 58) (by simp) rfl rfl
          refine ⟨_, #[Value.slice q n cap], copied_enter', rfl, by simp [Og.ev, e1], (copied_calls (hlv.1.chg hA.keep (fun k e => by have := (fun k e => by have := (hlv.2 k e).2; omega : ∀ k, (Value.slice q n cap).ownBlock = some k → ownS1 k ≠ 1 ∧ ownS1 k ≠ 2 + 3) k e; simp only [Bool.or_eq_false_iff, beq_eq_false_iff_ne]; omega))).mono ?_⟩
          rintro e w3 ⟨u', rfl, ho, hb3⟩
          exact ⟨u', rfl, ho.more (by rw [hG]; exact hA.keep.size), hb3⟩
      · refine Og.ok_wval _ rfl fun φ w2 hA => ?_
        have hob : OB G w2 (φ 59) (l1) := hA.of 6 (d := 59) (by simp) rfl rfl
        have hbb := below_alloc1 w2 (.cells #[φ 59] 32)
        have hf : ∃ p q c1, φ 59 = .slice p q c1 := by obtain ⟨p, c1, e⟩ := hob.rb.form; exact ⟨p, _, c1, e⟩
        refine ⟨.slice (some ⟨w2.heap.size, 0, none⟩) 1 1, w2.alloc (.cells #[φ 59] 32), build_one' (u := φ 59) rfl rfl hf w2, hA.keep.trans (Chg.below hbb) (fun _ _ h => h), ⟨w2.heap.size, φ 59, rfl, by rw [hG]; exact hA.keep.size, by simp, cell_one _ _ _, hob.below hbb⟩, fun i hi hT => ⟨fun e => blk_below (hT.1 e) hbb, fun e => (hT.2 e).at_ fun k ek => hbb.block k ((hT.2 e).lt k ek).2⟩, fun y hy hn u' hu' => ?_⟩
        simp only [List.mem_cons, List.not_mem_nil, or_false] at hy
        rcases hy with rfl | rfl | rfl | rfl
        · exact hu'.below hbb
        · obtain ⟨ad, c1, e, h1, h2, h3, h4⟩ := hu'; exact ⟨ad, c1, e, h1, Nat.lt_of_lt_of_le h2 hbb.size, ((bcell hbb).1 ad 0 h2).trans h3, h4.below hbb⟩
        · obtain ⟨c1, h1, h2, h3⟩ := hu'; exact ⟨c1, h1.at_ fun k e => hbb.block k (h1.lt k e).2, h2.below hbb, h3⟩
        · obtain ⟨u1, c1, h0, h1, h2, h3⟩ := hu'; exact ⟨u1, c1, blk_below h0 hbb, h1.at_ fun k e => hbb.block k (h1.lt k e).2, h2.below hbb, h3⟩
      · refine Og.ok_wval _ rfl fun φ w2 hA => ?_
        obtain ⟨ad, c1, e7, had, hadl, hcc, hoc⟩ := hA.of 7 (d := 60) (by simp) rfl rfl
        have e4 : φ 57 = vS1 3 := hA.of 4 (d := 57) (by simp) rfl rfl
        have hvr : VR B w2 (vS1 3) (VS1 3) := hA.tok.2 rfl
        have hG2 : G ≤ w2.heap.size := by rw [hG]; exact hA.keep.size
        have hc1 : c1.oneCell' = true := by obtain ⟨p, q, e⟩ := hoc.rb.form; rw [e]; rfl
        obtain ⟨u, w3, hrun, hu, hg, hat⟩ := hvr.append hcc hc1 hlen3 (Nat.le_trans hBG hG2)
        have hCg : Chg ownS1 (fun t => t == 1 || t == 2 + 3) w2 w3 := Chg.of hg fun k e _ => by rw [h.tags 3 (by decide) k e]; decide
        refine ⟨u, w3, ?_, hA.keep.trans hCg (fun _ _ h => h), ⟨c1, hu, hoc.kept hg (fun k e e' => by have := (hoc.lt k e).1; have := hjG k e'; omega), hat.imp id (fun e k ek => by rw [e] at ek; injection ek with ek; exact ⟨by omega, fun ec => by have := (hoc.lt k ec).2; omega⟩)⟩, fun i hi hT => ⟨fun e => (hg.block r (by omega) (fun e' => hjr r e'.symm rfl)).trans (hT.1 e), fun e => absurd (e ▸ hi) (Bool.eq_false_iff.1 (by kernel_rfl))⟩, fun y hy hn u' hu' => ?_⟩
        · exact Og.exec_append rfl (by simp only [Og.ev]; rw [e4, e7]; exact hrun)
        · simp only [List.mem_cons, List.not_mem_nil, or_false] at hy
          rcases hy with rfl | rfl | rfl | rfl
          · exact hu'.kept hg (fun k e e' => by have := (hu'.lt k e).1; have := hjG k e'; omega)
          · obtain ⟨ad', c', e', h1, h2, h3, h4⟩ := hu'
            exact ⟨ad', c', e', h1, Nat.lt_of_lt_of_le h2 hg.size, (World.cell?_of_block (hg.block ad' h2 (fun e => by have := hjG ad' e.symm; omega))).trans h3, h4.kept hg (fun k e e' => by have := (h4.lt k e).1; have := hjG k e'; omega)⟩
          · exact absurd hn (Bool.eq_false_iff.1 (by kernel_rfl))
          · exact absurd hn (Bool.eq_false_iff.1 (by kernel_rfl))
      · refine Og.ok_val _ rfl rfl fun φ w2 hA => ?_
        have e1 : φ 53 = .pointer (some ⟨r, 0, none⟩) := hA.of 0 (d := 53) (by simp) rfl rfl
        simp only [execOp, Og.ev, e1]
        go_simp
      · refine Og.ok_val _ rfl rfl fun φ w2 hA => ?_
        have e1 : φ 62 = .pointer (some ⟨r, 0, none⟩) := hA.of 9 (d := 62) (by simp) rfl rfl
        simp only [execOp, Og.ev, e1]
        go_simp
      · refine Og.ok_wskip _ rfl fun φ w2 hA => ?_
        obtain ⟨c1, hu, hoc, hat⟩ := hA.of 8 (d := 61) (by simp) rfl rfl
        have e10 : φ 63 = .pointer (some ⟨r, 3, none⟩) := hA.of 10 (d := 63) (by simp) rfl rfl
        have hblk := hA.tok.1 (.inr rfl)
        have hG2 : G ≤ w2.heap.size := by rw [hG]; exact hA.keep.size
        have hgs := setCells_grown w2 r 3 [φ 61]
        have hur : ∀ k, (φ 61).ownBlock = some k → k ≠ r := fun k e => by
          rcases hat with a | a
          · exact hjr k (a ▸ e)
          · have := a k e; omega
        refine ⟨w2.setCells r 3 [φ 61], exec_store (o := 3) (vs := [φ 61]) (cs := [vS1 0, vS1 1, vS1 2, vS1 3, .int .i64 m]) rfl (by simp only [Og.ev]; exact e10) (by simp only [Og.ev]; exact hu.cells1) hblk (by show 3 + 1 ≤ 5; decide) lsz (slice_one _ hu.one), hA.keep.trans (Chg.of hgs fun k e _ => by injection e with e; subst e; rw [h.tag]; rfl) (fun _ _ h => h), ⟨φ 61, c1, setCells_heap [φ 61] 3 w2 _ hblk, hu.grown hgs (fun k e e' => hur k e (by injection e' with e'; exact e'.symm)), hoc.kept hgs (fun k e e' => by have := (hoc.lt k e).1; injection e'; omega), hat⟩, fun i hi hT => ⟨fun e => by rcases e with e | e <;> exact absurd (e ▸ hi) (Bool.eq_false_iff.1 (by kernel_rfl)), fun e => absurd (e ▸ hi) (Bool.eq_false_iff.1 (by kernel_rfl))⟩, fun y hy hn u' hu' => ?_⟩
        simp only [List.mem_cons, List.not_mem_nil, or_false] at hy
        rcases hy with rfl | rfl | rfl | rfl
        · exact hu'.kept hgs (fun k e e' => by have := (hu'.lt k e).1; injection e'; omega)
        · obtain ⟨ad', c', e', h1, h2, h3, h4⟩ := hu'
          exact ⟨ad', c', e', h1, Nat.lt_of_lt_of_le h2 hgs.size, (World.cell?_of_block (hgs.block ad' h2 (fun e => by injection e; omega))).trans h3, h4.kept hgs (fun k e e' => by have := (h4.lt k e).1; injection e'; omega)⟩
        · exact absurd hn (Bool.eq_false_iff.1 (by kernel_rfl))
        · exact absurd hn (Bool.eq_false_iff.1 (by kernel_rfl))
      intro φ a wS2 hF hCu h0 hV hN
      obtain ⟨_, u, c1, hblk, hu, hoc, hat⟩ := hN 11 _ rfl rfl rfl
      have e0 : φ 0 = .pointer (some ⟨r, 0, none⟩) := h0 0 (by kernel_rfl)
      have e1 : φ 1 = .slice q n cap := h0 1 (by kernel_rfl)
      have e6 : φ 6 = gv := h0 6 (by kernel_rfl)
      have ea : ∃ U : Nat → Value, a = ⟨#[.pointer (some ⟨r, 0, none⟩), .slice q n cap, U 2, U 3, U 4, U 5, gv, U 7, U 8, U 9, U 10, U 11, U 12, U 13, U 14, U 15, U 16, U 17, U 18, U 19, U 20, U 21, U 22, U 23, U 24, U 25, U 26, U 27, U 28, U 29, U 30, U 31, U 32, U 33, U 34, U 35, U 36, U 37, U 38, U 39, U 40, U 41, U 42, U 43, U 44, U 45, U 46, U 47, U 48, U 49, U 50, U 51, U 52, U 53, U 54, U 55, U 56, U 57, U 58, U 59, U 60, U 61, U 62, U 63, U 64, U 65, U 66, U 67, U 68, U 69, U 70, U 71, U 72, U 73, U 74, U 75, U 76, U 77, U 78, U 79, U 80, U 81, U 82, U 83, U 84], []⟩ := ⟨φ, by
        rw [hF.lit_eq, show ((List.range 85).map φ).toArray = #[φ 0, φ 1, φ 2, φ 3, φ 4, φ 5, φ 6, φ 7, φ 8, φ 9, φ 10, φ 11, φ 12, φ 13, φ 14, φ 15, φ 16, φ 17, φ 18, φ 19, φ 20, φ 21, φ 22, φ 23, φ 24, φ 25, φ 26, φ 27, φ 28, φ 29, φ 30, φ 31, φ 32, φ 33, φ 34, φ 35, φ 36, φ 37, φ 38, φ 39, φ 40, φ 41, φ 42, φ 43, φ 44, φ 45, φ 46, φ 47, φ 48, φ 49, φ 50, φ 51, φ 52, φ 53, φ 54, φ 55, φ 56, φ 57, φ 58, φ 59, φ 60, φ 61, φ 62, φ 63, φ 64, φ 65, φ 66, φ 67, φ 68, φ 69, φ 70, φ 71, φ 72, φ 73, φ 74, φ 75, φ 76, φ 77, φ 78, φ 79, φ 80, φ 81, φ 82, φ 83, φ 84] by kernel_rfl, e0, e1, e6]⟩
      obtain ⟨U, rfl⟩ := ea
      clear hF h0 hV hN e0 e1 e6
      have hPu := h.pushed (j := 3) (by decide) p hCu hblk hu (hat.imp id (fun e k ek => by rw [← hG]; exact (e k ek).1))
      have hut : ∀ k, c1.ownBlock = some k → k < wS2.heap.size ∧ ownP ownS1 wS1.heap.size u 3 p k = p := fun k e => by
        have hk := hoc.lt k e
        refine ⟨hk.2, ownP_oth (by rw [← hG]; exact hk.1) (fun e' => ?_)⟩
        rcases hat with a | a
        · have := hjG k (a ▸ e'); omega
        · exact (a k e').2 e
      clear hblk hu hat hjG hjr hrG hBG
      refine hnext _ _ ?_
      clear hnext
      have hold : ∀ k, k < wS1.heap.size → ownP ownS1 wS1.heap.size u 3 p k = ownS1 k := fun k hk => ownP_old hk
      replace hlv := hlv.step hCu (hp4 3 (by decide)) hold
      replace hgv := hgv.step hCu (hp4 3 (by decide)) hold
      replace hK := hK.step hCu (h94 3 (by decide)) hold
      replace hT := hT.step hCu (h94 3 (by decide)) hold
      have hCu' : Chg ownS1 (fun t => t == 1 || t == 4 || t == 5 || t == p) wS1 wS2 := hCu.mono (fun t h => by simp only [Bool.or_eq_false_iff] at h ⊢; exact ⟨h.1.1.1, h.1.2⟩)
      replace hCW := hCW.trans hCu' (fun k hk h => by rw [show ownS1 k = own k from hown k hk]; rw [← hst k hk]; exact h)
      replace hown : ∀ k, k < W.heap.size → ownP ownS1 wS1.heap.size u 3 p k = own k := fun k hk => (hold k (by omega)).trans (hown k hk)
      replace hBw : B ≤ wS2.heap.size := Nat.le_trans hBw hCu.size
      replace hWw : W.heap.size ≤ wS2.heap.size := Nat.le_trans hWw hCu.size
      obtain ⟨vS2, hvk⟩ : ∃ x : Nat → Value, x = fup vS1 3 u := ⟨_, rfl⟩
      obtain ⟨VS2, hVk⟩ : ∃ x : Nat → List Value, x = fup VS1 3 (VS1 3 ++ [c1]) := ⟨_, rfl⟩
      rw [← hvk, ← hVk] at hPu
      replace ev0 : vS2 0 = vA 0 := by rw [hvk]; exact ev0
      replace ev1 : vS2 1 = vA 1 := by rw [hvk]; exact ev1
      replace eV0 : VS2 0 = VA 0 := by rw [hVk]; exact eV0
      replace eV1 : VS2 1 = VA 1 := by rw [hVk]; exact eV1
      replace E3 : VS2 3 = T0 ++ [c1] := by rw [hVk, fup_at, E3]
      replace E2 : VS2 2 = K0 ++ [Value.slice q n cap] := by rw [hVk, fup_ne _ _ (by decide), E2]
      replace hlen2 : (VS2 2).length + 1 ≤ 4294967296 := by rw [E2]; simp; omega
      replace hlen3 : (VS2 3).length + 1 ≤ 4294967296 := by rw [E3]; simp; omega
      have hc1 : Lp (ownP ownS1 wS1.heap.size u 3 p) wS2 c1 l1 p := ⟨hoc.rb, hut⟩
      clear hoc hut hG G
      generalize ownP ownS1 wS1.heap.size u 3 p = ownS2 at *
      replace h := hPu
      clear hPu hvk hVk hCu hCu' hold u
      go_upto_region 13 with fail
      rename_i hnext
      refine wp_region_lit ?_
      refine Og.st_start (n := 85) rfl fun a hF => ?_
      refine Og.st_same (.pointer (some ⟨r, 0, none⟩)) hF rfl rfl (by decide) (by kernel_rfl) ?_
      clear hF a; intro a hF
      refine Og.st_same (.pointer (some ⟨r, 0, none⟩)) hF rfl rfl (by decide) (by kernel_rfl) ?_
      clear hF a; intro a hF
      refine Og.st_same (.pointer (some ⟨r, 0, none⟩)) hF rfl rfl (by decide) (by kernel_rfl) ?_
      clear hF a; intro a hF
      refine Og.st_same (.pointer (some ⟨r, 2, none⟩)) hF rfl rfl (by decide) (by kernel_rfl) ?_
      clear hF a; intro a hF
      refine Og.st_same (vS2 2) hF rfl rfl (by decide) (Og.exec_load rfl (h.ld (j := 2) (by decide))) ?_
      clear hF a; intro a hF
      refine Og.st_same (gv) hF rfl rfl (by decide) (by kernel_rfl) ?_
      clear hF a; intro a hF
      refine Og.st_val (w' := wS2.alloc (.cells #[gv] 32)) (.slice (some ⟨wS2.heap.size, 0, none⟩) 1 1) hF rfl rfl (by decide) (build_one' (u := gv) rfl (by kernel_rfl) hgf wS2) ?_
      clear hF a; intro a hF
      have hba := below_alloc1 wS2 (.cells #[gv] 32)
      have hxc : (wS2.alloc (.cells #[gv] 32)).cell? ⟨wS2.heap.size, 0, none⟩ = some (gv) := cell_one _ _ _
      have hra : VR B (wS2.alloc (.cells #[gv] 32)) (vS2 2) (VS2 2) := (h.row 2 (by decide)).at_ fun k e => hba.block k ((h.row 2 (by decide)).lt k e).2
      have hx1 : Value.oneCell' (gv) = true := by obtain ⟨p, q, c2, e⟩ := hgf; rw [e]; rfl
      generalize wS2.alloc (.cells #[gv] 32) = wA at *
      obtain ⟨u, w1, hrun, hu, hg, hat⟩ := hra.append hxc hx1 hlen2 (Nat.le_trans hBw hba.size)
      have hk := h.kept (j := 2) (by decide) hba hg
      refine Og.st_val (w' := w1) u hF rfl rfl (by decide) (Og.exec_append rfl hrun) ?_
      clear hF a; intro a hF
      refine Og.st_same (.pointer (some ⟨r, 0, none⟩)) hF rfl rfl (by decide) (by kernel_rfl) ?_
      clear hF a; intro a hF
      refine Og.st_same (.pointer (some ⟨r, 2, none⟩)) hF rfl rfl (by decide) (by kernel_rfl) ?_
      clear hF a; intro a hF
      refine Og.st_skip (w' := w1.setCells r 2 [u]) hF rfl rfl
        (exec_store (o := 2) (vs := [u]) (cs := [vS2 0, vS2 1, vS2 2, vS2 3, .int .i64 m]) rfl rfl hu.cells1 hk (by show 2 + 1 ≤ 5; decide) lsz (slice_one _ hu.one)) ?_
      clear hF a; intro a hF
      obtain ⟨hPu, hCu⟩ := h.push (j := 2) (by decide) p hba hg hu hat
      generalize w1.setCells r 2 [u] = wS3 at *
      refine wpList_nil ?_
      obtain ⟨U, rfl⟩ := Og.Fr.lit_ex hF (fun U => ⟨#[.pointer (some ⟨r, 0, none⟩), .slice q n cap, U 2, U 3, U 4, U 5, gv, U 7, U 8, U 9, U 10, U 11, U 12, U 13, U 14, U 15, U 16, U 17, U 18, U 19, U 20, U 21, U 22, U 23, U 24, U 25, U 26, U 27, U 28, U 29, U 30, U 31, U 32, U 33, U 34, U 35, U 36, U 37, U 38, U 39, U 40, U 41, U 42, U 43, U 44, U 45, U 46, U 47, U 48, U 49, U 50, U 51, U 52, U 53, U 54, U 55, U 56, U 57, U 58, U 59, U 60, U 61, U 62, U 63, U 64, U 65, U 66, U 67, U 68, U 69, U 70, U 71, U 72, U 73, U 74, U 75, U 76, U 77, U 78, U 79, U 80, U 81, U 82, U 83, U 84], []⟩) (by kernel_rfl)
      clear hF hba hxc hra hx1 hrun hu hg hat hk wA w1
      refine hnext _ _ ?_
      clear hnext
      have hold : ∀ k, k < wS2.heap.size → ownP ownS2 wS2.heap.size u 2 p k = ownS2 k := fun k hk => ownP_old hk
      replace hlv := hlv.step hCu (hp4 2 (by decide)) hold
      replace hgv := hgv.step hCu (hp4 2 (by decide)) hold
      replace hc1 := hc1.step hCu (hp4 2 (by decide)) hold
      replace hK := hK.step hCu (h94 2 (by decide)) hold
      replace hT := hT.step hCu (h94 2 (by decide)) hold
      have hCu' : Chg ownS2 (fun t => t == 1 || t == 4 || t == 5 || t == p) wS2 wS3 := hCu.mono (fun t h => by simp only [Bool.or_eq_false_iff] at h ⊢; exact ⟨h.1.1.1, h.1.1.2⟩)
      replace hCW := hCW.trans hCu' (fun k hk h => by rw [show ownS2 k = own k from hown k hk]; rw [← hst k hk]; exact h)
      replace hown : ∀ k, k < W.heap.size → ownP ownS2 wS2.heap.size u 2 p k = own k := fun k hk => (hold k (by omega)).trans (hown k hk)
      replace hBw : B ≤ wS3.heap.size := Nat.le_trans hBw hCu.size
      replace hWw : W.heap.size ≤ wS3.heap.size := Nat.le_trans hWw hCu.size
      obtain ⟨vS3, hvk⟩ : ∃ x : Nat → Value, x = fup vS2 2 u := ⟨_, rfl⟩
      obtain ⟨VS3, hVk⟩ : ∃ x : Nat → List Value, x = fup VS2 2 (VS2 2 ++ [gv]) := ⟨_, rfl⟩
      rw [← hvk, ← hVk] at hPu
      replace ev0 : vS3 0 = vA 0 := by rw [hvk]; exact ev0
      replace ev1 : vS3 1 = vA 1 := by rw [hvk]; exact ev1
      replace eV0 : VS3 0 = VA 0 := by rw [hVk]; exact eV0
      replace eV1 : VS3 1 = VA 1 := by rw [hVk]; exact eV1
      replace E2 : VS3 2 = K0 ++ [Value.slice q n cap] ++ [gv] := by rw [hVk, fup_at, E2]
      replace E3 : VS3 3 = T0 ++ [c1] := by rw [hVk, fup_ne _ _ (by decide), E3]
      replace hlen2 : (VS3 2).length + 1 ≤ 4294967296 := by rw [E2]; simp; omega
      replace hlen3 : (VS3 3).length + 1 ≤ 4294967296 := by rw [E3]; simp; omega
      generalize ownP ownS2 wS2.heap.size u 2 p = ownS3 at *
      replace h := hPu
      clear hPu hvk hVk hCu hCu' hold u
      go_upto_region 14 with fail
      obtain ⟨G, hG⟩ : ∃ G, G = wS3.heap.size := ⟨_, rfl⟩
      have hrG : r < G := by rw [hG]; exact h.lt
      have hjG : ∀ k, (vS3 3).ownBlock = some k → k < G := fun k e => by rw [hG]; exact ((h.row 3 (by decide)).lt k e).2
      have hjr : ∀ k, (vS3 3).ownBlock = some k → k ≠ r := fun k e => h.ne (by decide) e
      have hBG : B ≤ G := by rw [hG]; exact hBw
      refine Og.wp_region_og _ (fun i => i == 11)
        (Og.Vt [.pointer (some ⟨r, 0, none⟩), .pointer (some ⟨r, 0, none⟩), .pointer (some ⟨r, 0, none⟩), .pointer (some ⟨r, 3, none⟩), vS3 3, gv, undef, undef, undef, .pointer (some ⟨r, 0, none⟩), .pointer (some ⟨r, 3, none⟩), undef] [(6, fun u w' => OB G w' u (l2)), (7, fun u w' => ∃ ad c3, u = .slice (some ⟨ad, 0, none⟩) 1 1 ∧ G ≤ ad ∧ ad < w'.heap.size ∧ w'.cell? ⟨ad, 0, none⟩ = some c3 ∧ OB G w' c3 (l2)), (8, fun u w' => ∃ c3, VR B w' u (VS3 3 ++ [c3]) ∧ OB G w' c3 (l2) ∧ (u.ownBlock = (vS3 3).ownBlock ∨ ∀ k, u.ownBlock = some k → G ≤ k ∧ c3.ownBlock ≠ some k)), (11, fun _ w' => ∃ u c3, w'.heap[r]? = some (.cells (setAll [vS3 0, vS3 1, vS3 2, vS3 3, .int .i64 m] 3 [u]).toArray 65 (0, 0)) ∧ VR B w' u (VS3 3 ++ [c3]) ∧ OB G w' c3 (l2) ∧ (u.ownBlock = (vS3 3).ownBlock ∨ ∀ k, u.ownBlock = some k → G ≤ k ∧ c3.ownBlock ≠ some k))])
        (fun w' => Chg ownS3 (fun t => t == 1 || t == 2 + 3) wS3 w')
        (fun i w' => (i = 4 ∨ i = 11 → w'.heap[r]? = some (.cells [vS3 0, vS3 1, vS3 2, vS3 3, .int .i64 m].toArray 65 (0, 0))) ∧ (i = 8 → VR B w' (vS3 3) (VS3 3))) 85 rfl (by kernel_rfl) (by kernel_rfl) (Chg.below (Below.drew (Below.refl _ _))) (fun _ _ => ⟨fun _ => h.blk, fun _ => (h.row 3 (by decide)).at_ fun _ _ => rfl⟩) (Og.allOps ⟨?_, ?_, ?_, ?_, ?_, ?_, ?_, ?_, ?_, ?_, ?_, ?_, trivial⟩) ?_
      · refine Og.ok_val _ rfl rfl fun φ w2 hA => ?_
        have e1 : φ 0 = .pointer (some ⟨r, 0, none⟩) := hA.old 0 (by kernel_rfl)
        simp only [execOp, Og.ev, e1]
        go_simp
      · refine Og.ok_val _ rfl rfl fun φ w2 hA => ?_
        have e1 : φ 0 = .pointer (some ⟨r, 0, none⟩) := hA.old 0 (by kernel_rfl)
        simp only [execOp, Og.ev, e1]
        go_simp
      · refine Og.ok_val _ rfl rfl fun φ w2 hA => ?_
        have e1 : φ 75 = .pointer (some ⟨r, 0, none⟩) := hA.of 1 (d := 75) (by simp) rfl rfl
        simp only [execOp, Og.ev, e1]
        go_simp
      · refine Og.ok_val _ rfl rfl fun φ w2 hA => ?_
        have e1 : φ 76 = .pointer (some ⟨r, 0, none⟩) := hA.of 2 (d := 76) (by simp) rfl rfl
        simp only [execOp, Og.ev, e1]
        go_simp
      · refine Og.ok_val _ rfl rfl fun φ w2 hA => ?_
        have e1 : φ 77 = .pointer (some ⟨r, 3, none⟩) := hA.of 3 (d := 77) (by simp) rfl rfl
        refine Og.exec_load rfl ?_
        simp only [Og.ev, e1]
        exact h.ld' (j := 3) (by decide) (hA.tok.1 (.inl rfl))
      · refine Og.ok_val _ rfl rfl fun φ w2 hA => ?_
        have e1 : φ 6 = gv := hA.old 6 (by kernel_rfl)
        simp only [execOp, Og.ev, e1]
        go_simp
      · refine Og.ok_gcall_fn _ _ _ _ ?_ ?_ ?_ rfl rfl fun φ w2 hA => ?_
        · intro y hy u' w3 w4 hu' hbb
          simp only [List.mem_cons, List.not_mem_nil, or_false] at hy
          rcases hy with rfl | rfl | rfl | rfl
          · exact hu'.below hbb
          · obtain ⟨ad, c3, e, h1, h2, h3, h4⟩ := hu'; exact ⟨ad, c3, e, h1, Nat.lt_of_lt_of_le h2 hbb.size, ((bcell hbb).1 ad 0 h2).trans h3, h4.below hbb⟩
          · obtain ⟨c3, h1, h2, h3⟩ := hu'; exact ⟨c3, h1.at_ fun k e => hbb.block k (h1.lt k e).2, h2.below hbb, h3⟩
          · obtain ⟨u1, c3, h0, h1, h2, h3⟩ := hu'; exact ⟨u1, c3, blk_below h0 hbb, h1.at_ fun k e => hbb.block k (h1.lt k e).2, h2.below hbb, h3⟩
        · exact fun w3 w4 hR hbb => hR.trans (Chg.below hbb) (fun _ _ h => h)
        · exact fun i w3 w4 hT hbb => ⟨fun e => blk_below (hT.1 e) hbb, fun e => (hT.2 e).at_ fun k ek => hbb.block k ((hT.2 e).lt k ek).2⟩
        · have e1 : φ 79 = gv := hA.of 5 (d := 79) (by simp) rfl rfl
          refine ⟨_, #[gv], copied_enter', rfl, by simp [Og.ev, e1], (copied_calls (hgv.1.chg hA.keep (fun k e => by have := (fun k e => by have := (hgv.2 k e).2; omega : ∀ k, (gv).ownBlock = some k → ownS3 k ≠ 1 ∧ ownS3 k ≠ 2 + 3) k e; simp only [Bool.or_eq_false_iff, beq_eq_false_iff_ne]; omega))).mono ?_⟩
          rintro e w3 ⟨u', rfl, ho, hb3⟩
          exact ⟨u', rfl, ho.more (by rw [hG]; exact hA.keep.size), hb3⟩
      · refine Og.ok_wval _ rfl fun φ w2 hA => ?_
        have hob : OB G w2 (φ 80) (l2) := hA.of 6 (d := 80) (by simp) rfl rfl
        have hbb := below_alloc1 w2 (.cells #[φ 80] 32)
        have hf : ∃ p q c3, φ 80 = .slice p q c3 := by obtain ⟨p, c3, e⟩ := hob.rb.form; exact ⟨p, _, c3, e⟩
        refine ⟨.slice (some ⟨w2.heap.size, 0, none⟩) 1 1, w2.alloc (.cells #[φ 80] 32), build_one' (u := φ 80) rfl rfl hf w2, hA.keep.trans (Chg.below hbb) (fun _ _ h => h), ⟨w2.heap.size, φ 80, rfl, by rw [hG]; exact hA.keep.size, by simp, cell_one _ _ _, hob.below hbb⟩, fun i hi hT => ⟨fun e => blk_below (hT.1 e) hbb, fun e => (hT.2 e).at_ fun k ek => hbb.block k ((hT.2 e).lt k ek).2⟩, fun y hy hn u' hu' => ?_⟩
        simp only [List.mem_cons, List.not_mem_nil, or_false] at hy
        rcases hy with rfl | rfl | rfl | rfl
        · exact hu'.below hbb
        · obtain ⟨ad, c3, e, h1, h2, h3, h4⟩ := hu'; exact ⟨ad, c3, e, h1, Nat.lt_of_lt_of_le h2 hbb.size, ((bcell hbb).1 ad 0 h2).trans h3, h4.below hbb⟩
        · obtain ⟨c3, h1, h2, h3⟩ := hu'; exact ⟨c3, h1.at_ fun k e => hbb.block k (h1.lt k e).2, h2.below hbb, h3⟩
        · obtain ⟨u1, c3, h0, h1, h2, h3⟩ := hu'; exact ⟨u1, c3, blk_below h0 hbb, h1.at_ fun k e => hbb.block k (h1.lt k e).2, h2.below hbb, h3⟩
      · refine Og.ok_wval _ rfl fun φ w2 hA => ?_
        obtain ⟨ad, c3, e7, had, hadl, hcc, hoc⟩ := hA.of 7 (d := 81) (by simp) rfl rfl
        have e4 : φ 78 = vS3 3 := hA.of 4 (d := 78) (by simp) rfl rfl
        have hvr : VR B w2 (vS3 3) (VS3 3) := hA.tok.2 rfl
        have hG2 : G ≤ w2.heap.size := by rw [hG]; exact hA.keep.size
        have hc1 : c3.oneCell' = true := by obtain ⟨p, q, e⟩ := hoc.rb.form; rw [e]; rfl
        obtain ⟨u, w3, hrun, hu, hg, hat⟩ := hvr.append hcc hc1 hlen3 (Nat.le_trans hBG hG2)
        have hCg : Chg ownS3 (fun t => t == 1 || t == 2 + 3) w2 w3 := Chg.of hg fun k e _ => by rw [h.tags 3 (by decide) k e]; decide
        refine ⟨u, w3, ?_, hA.keep.trans hCg (fun _ _ h => h), ⟨c3, hu, hoc.kept hg (fun k e e' => by have := (hoc.lt k e).1; have := hjG k e'; omega), hat.imp id (fun e k ek => by rw [e] at ek; injection ek with ek; exact ⟨by omega, fun ec => by have := (hoc.lt k ec).2; omega⟩)⟩, fun i hi hT => ⟨fun e => (hg.block r (by omega) (fun e' => hjr r e'.symm rfl)).trans (hT.1 e), fun e => absurd (e ▸ hi) (Bool.eq_false_iff.1 (by kernel_rfl))⟩, fun y hy hn u' hu' => ?_⟩
        · exact Og.exec_append rfl (by simp only [Og.ev]; rw [e4, e7]; exact hrun)
        · simp only [List.mem_cons, List.not_mem_nil, or_false] at hy
          rcases hy with rfl | rfl | rfl | rfl
          · exact hu'.kept hg (fun k e e' => by have := (hu'.lt k e).1; have := hjG k e'; omega)
          · obtain ⟨ad', c', e', h1, h2, h3, h4⟩ := hu'
            exact ⟨ad', c', e', h1, Nat.lt_of_lt_of_le h2 hg.size, (World.cell?_of_block (hg.block ad' h2 (fun e => by have := hjG ad' e.symm; omega))).trans h3, h4.kept hg (fun k e e' => by have := (h4.lt k e).1; have := hjG k e'; omega)⟩
          · exact absurd hn (Bool.eq_false_iff.1 (by kernel_rfl))
          · exact absurd hn (Bool.eq_false_iff.1 (by kernel_rfl))
      · refine Og.ok_val _ rfl rfl fun φ w2 hA => ?_
        have e1 : φ 74 = .pointer (some ⟨r, 0, none⟩) := hA.of 0 (d := 74) (by simp) rfl rfl
        simp only [execOp, Og.ev, e1]
        go_simp
      · refine Og.ok_val _ rfl rfl fun φ w2 hA => ?_
        have e1 : φ 83 = .pointer (some ⟨r, 0, none⟩) := hA.of 9 (d := 83) (by simp) rfl rfl
        simp only [execOp, Og.ev, e1]
        go_simp
      · refine Og.ok_wskip _ rfl fun φ w2 hA => ?_
        obtain ⟨c3, hu, hoc, hat⟩ := hA.of 8 (d := 82) (by simp) rfl rfl
        have e10 : φ 84 = .pointer (some ⟨r, 3, none⟩) := hA.of 10 (d := 84) (by simp) rfl rfl
        have hblk := hA.tok.1 (.inr rfl)
        have hG2 : G ≤ w2.heap.size := by rw [hG]; exact hA.keep.size
        have hgs := setCells_grown w2 r 3 [φ 82]
        have hur : ∀ k, (φ 82).ownBlock = some k → k ≠ r := fun k e => by
          rcases hat with a | a
          · exact hjr k (a ▸ e)
          · have := a k e; omega
        refine ⟨w2.setCells r 3 [φ 82], exec_store (o := 3) (vs := [φ 82]) (cs := [vS3 0, vS3 1, vS3 2, vS3 3, .int .i64 m]) rfl (by simp only [Og.ev]; exact e10) (by simp only [Og.ev]; exact hu.cells1) hblk (by show 3 + 1 ≤ 5; decide) lsz (slice_one _ hu.one), hA.keep.trans (Chg.of hgs fun k e _ => by injection e with e; subst e; rw [h.tag]; rfl) (fun _ _ h => h), ⟨φ 82, c3, setCells_heap [φ 82] 3 w2 _ hblk, hu.grown hgs (fun k e e' => hur k e (by injection e' with e'; exact e'.symm)), hoc.kept hgs (fun k e e' => by have := (hoc.lt k e).1; injection e'; omega), hat⟩, fun i hi hT => ⟨fun e => by rcases e with e | e <;> exact absurd (e ▸ hi) (Bool.eq_false_iff.1 (by kernel_rfl)), fun e => absurd (e ▸ hi) (Bool.eq_false_iff.1 (by kernel_rfl))⟩, fun y hy hn u' hu' => ?_⟩
        simp only [List.mem_cons, List.not_mem_nil, or_false] at hy
        rcases hy with rfl | rfl | rfl | rfl
        · exact hu'.kept hgs (fun k e e' => by have := (hu'.lt k e).1; injection e'; omega)
        · obtain ⟨ad', c', e', h1, h2, h3, h4⟩ := hu'
          exact ⟨ad', c', e', h1, Nat.lt_of_lt_of_le h2 hgs.size, (World.cell?_of_block (hgs.block ad' h2 (fun e => by injection e; omega))).trans h3, h4.kept hgs (fun k e e' => by have := (h4.lt k e).1; injection e'; omega)⟩
        · exact absurd hn (Bool.eq_false_iff.1 (by kernel_rfl))
        · exact absurd hn (Bool.eq_false_iff.1 (by kernel_rfl))
      intro φ a wS4 hF hCu h0 hV hN
      obtain ⟨_, u, c3, hblk, hu, hoc, hat⟩ := hN 11 _ rfl rfl rfl
      have e0 : φ 0 = .pointer (some ⟨r, 0, none⟩) := h0 0 (by kernel_rfl)
      have e1 : φ 1 = .slice q n cap := h0 1 (by kernel_rfl)
      have e6 : φ 6 = gv := h0 6 (by kernel_rfl)
      have ea : ∃ U : Nat → Value, a = ⟨#[.pointer (some ⟨r, 0, none⟩), .slice q n cap, U 2, U 3, U 4, U 5, gv, U 7, U 8, U 9, U 10, U 11, U 12, U 13, U 14, U 15, U 16, U 17, U 18, U 19, U 20, U 21, U 22, U 23, U 24, U 25, U 26, U 27, U 28, U 29, U 30, U 31, U 32, U 33, U 34, U 35, U 36, U 37, U 38, U 39, U 40, U 41, U 42, U 43, U 44, U 45, U 46, U 47, U 48, U 49, U 50, U 51, U 52, U 53, U 54, U 55, U 56, U 57, U 58, U 59, U 60, U 61, U 62, U 63, U 64, U 65, U 66, U 67, U 68, U 69, U 70, U 71, U 72, U 73, U 74, U 75, U 76, U 77, U 78, U 79, U 80, U 81, U 82, U 83, U 84], []⟩ := ⟨φ, by
        rw [hF.lit_eq, show ((List.range 85).map φ).toArray = #[φ 0, φ 1, φ 2, φ 3, φ 4, φ 5, φ 6, φ 7, φ 8, φ 9, φ 10, φ 11, φ 12, φ 13, φ 14, φ 15, φ 16, φ 17, φ 18, φ 19, φ 20, φ 21, φ 22, φ 23, φ 24, φ 25, φ 26, φ 27, φ 28, φ 29, φ 30, φ 31, φ 32, φ 33, φ 34, φ 35, φ 36, φ 37, φ 38, φ 39, φ 40, φ 41, φ 42, φ 43, φ 44, φ 45, φ 46, φ 47, φ 48, φ 49, φ 50, φ 51, φ 52, φ 53, φ 54, φ 55, φ 56, φ 57, φ 58, φ 59, φ 60, φ 61, φ 62, φ 63, φ 64, φ 65, φ 66, φ 67, φ 68, φ 69, φ 70, φ 71, φ 72, φ 73, φ 74, φ 75, φ 76, φ 77, φ 78, φ 79, φ 80, φ 81, φ 82, φ 83, φ 84] by kernel_rfl, e0, e1, e6]⟩
      obtain ⟨U, rfl⟩ := ea
      clear hF h0 hV hN e0 e1 e6
      have hPu := h.pushed (j := 3) (by decide) p hCu hblk hu (hat.imp id (fun e k ek => by rw [← hG]; exact (e k ek).1))
      have hut : ∀ k, c3.ownBlock = some k → k < wS4.heap.size ∧ ownP ownS3 wS3.heap.size u 3 p k = p := fun k e => by
        have hk := hoc.lt k e
        refine ⟨hk.2, ownP_oth (by rw [← hG]; exact hk.1) (fun e' => ?_)⟩
        rcases hat with a | a
        · have := hjG k (a ▸ e'); omega
        · exact (a k e').2 e
      clear hblk hu hat hjG hjr hrG hBG
      have hold : ∀ k, k < wS3.heap.size → ownP ownS3 wS3.heap.size u 3 p k = ownS3 k := fun k hk => ownP_old hk
      replace hlv := hlv.step hCu (hp4 3 (by decide)) hold
      replace hgv := hgv.step hCu (hp4 3 (by decide)) hold
      replace hc1 := hc1.step hCu (hp4 3 (by decide)) hold
      replace hK := hK.step hCu (h94 3 (by decide)) hold
      replace hT := hT.step hCu (h94 3 (by decide)) hold
      have hCu' : Chg ownS3 (fun t => t == 1 || t == 4 || t == 5 || t == p) wS3 wS4 := hCu.mono (fun t h => by simp only [Bool.or_eq_false_iff] at h ⊢; exact ⟨h.1.1.1, h.1.2⟩)
      replace hCW := hCW.trans hCu' (fun k hk h => by rw [show ownS3 k = own k from hown k hk]; rw [← hst k hk]; exact h)
      replace hown : ∀ k, k < W.heap.size → ownP ownS3 wS3.heap.size u 3 p k = own k := fun k hk => (hold k (by omega)).trans (hown k hk)
      replace hBw : B ≤ wS4.heap.size := Nat.le_trans hBw hCu.size
      replace hWw : W.heap.size ≤ wS4.heap.size := Nat.le_trans hWw hCu.size
      obtain ⟨vS4, hvk⟩ : ∃ x : Nat → Value, x = fup vS3 3 u := ⟨_, rfl⟩
      obtain ⟨VS4, hVk⟩ : ∃ x : Nat → List Value, x = fup VS3 3 (VS3 3 ++ [c3]) := ⟨_, rfl⟩
      rw [← hvk, ← hVk] at hPu
      replace ev0 : vS4 0 = vA 0 := by rw [hvk]; exact ev0
      replace ev1 : vS4 1 = vA 1 := by rw [hvk]; exact ev1
      replace eV0 : VS4 0 = VA 0 := by rw [hVk]; exact eV0
      replace eV1 : VS4 1 = VA 1 := by rw [hVk]; exact eV1
      replace E3 : VS4 3 = T0 ++ [c1] ++ [c3] := by rw [hVk, fup_at, E3]
      replace E2 : VS4 2 = K0 ++ [Value.slice q n cap] ++ [gv] := by rw [hVk, fup_ne _ _ (by decide), E2]
      replace hlen2 : (VS4 2).length + 1 ≤ 4294967296 := by rw [E2]; simp; omega
      replace hlen3 : (VS4 3).length + 1 ≤ 4294967296 := by rw [E3]; simp; omega
      have hc3 : Lp (ownP ownS3 wS3.heap.size u 3 p) wS4 c3 l2 p := ⟨hoc.rb, hut⟩
      clear hoc hut hG G
      generalize ownP ownS3 wS3.heap.size u 3 p = ownS4 at *
      replace h := hPu
      clear hPu hvk hVk hCu hCu' hold u
      (try go_wp2_with fail)
      go_end0
      refine ⟨rfl, ?_⟩
      refine ⟨fun k => if ownS4 k = p then 9 else ownS4 k, vS4, VS4, m, L ++ [l1] ++ [l2], h.retag' (fun k _ h6 => if_neg (by omega)), ev0, ev1, eV0, eV1, ?_, ?_, by simp, hCW.owner (fun k hk => (hst k hk).symm), fun k hk => by simp only [hown k hk]⟩
      · rw [E2]
        exact ((hK.retag (own' := fun k => if ownS4 k = p then 9 else ownS4 k) (fun k _ h9 => by simp [h9])).push hlv.1 (fun k e => ⟨(hlv.2 k e).1, by simp [(hlv.2 k e).2]⟩)).push hgv.1 (fun k e => ⟨(hgv.2 k e).1, by simp [(hgv.2 k e).2]⟩)
      · rw [E3]
        exact ((hT.retag (own' := fun k => if ownS4 k = p then 9 else ownS4 k) (fun k _ h9 => by simp [h9])).push hc1.1 (fun k e => ⟨(hc1.2 k e).1, by simp [(hc1.2 k e).2]⟩)).push hc3.1 (fun k e => ⟨(hc3.2 k e).1, by simp [(hc3.2 k e).2]⟩)
end Go.Proofs.YtbgfoobcpacfeaaDoor
