/- Walks and plain laws of the packets and frames, joined from: WLib2, WLf, WLf2, WCrc, RegF, WDec, WEnc, WLf3, WEx, WGs. -/
import Derived.Test.YtbgfoobcpacfeaaDoorPk6
import Derived.WalkSpells
import Derived.Laws.BitsAllLaws
import Derived.StillTail
/- What the laws of chapter 7 use: two lists that are the same; a list with marks behind it; turning every byte. -/
namespace Go.Proofs.YtbgfoobcpacfeaaDoor
open Go.RowKit
set_option linter.unusedVariables false
set_option linter.unusedSimpArgs false

set_option maxRecDepth 100000 in
set_option maxHeartbeats 4000000 in
theorem same_calls {w : World} {va vb : Value} {l : List UInt8} (h : RB w va l) (h' : RB w vb l) : Pur Tryd.prog 22 #[va, vb] w (.bool true) := by
  unfold Pur
  obtain ⟨p, c, rfl, h1, h2, h3, hr⟩ := h
  obtain ⟨p', c', rfl, h1', h2', h3', hr'⟩ := h'
  go_enter Tryd.func22, Tryd.ntmps22
  go_wp2_with fail
  refine wp_loop_count (fun i a w' => (∃ U : Nat → Value, a = ⟨#[.slice p l.length c, .slice p' l.length c', U 2, U 3, .bool false, .int .i64 i, U 6, U 7, U 8, U 9, U 10, U 11, U 12, U 13, U 14, U 15, U 16, U 17, U 18, U 19, U 20, U 21, U 22, U 23, U 24, U 25], []⟩) ∧ Below w.heap.size w w') l.length ⟨exU (fun U => ⟨#[.slice p l.length c, .slice p' l.length c', U 2, U 3, .bool false, .int .i64 0, U 6, U 7, U 8, U 9, U 10, U 11, U 12, U 13, U 14, U 15, U 16, U 17, U 18, U 19, U 20, U 21, U 22, U 23, U 24, U 25], []⟩) rfl, Below.refl _ _⟩ ?_ ?_
  · rintro i a w' hi ⟨⟨U, rfl⟩, hb⟩
    obtain ⟨b, hlb⟩ : ∃ b, l[i]? = some b := ⟨l[i], List.getElem?_eq_getElem hi⟩
    obtain ⟨g, o, rfl, hg, hcell⟩ := hr i b hlb
    obtain ⟨g', o', rfl, hg', hcell'⟩ := hr' i b hlb
    have hgw : g < w'.heap.size := Nat.lt_of_lt_of_le hg hb.size
    have hgw' : g' < w'.heap.size := Nat.lt_of_lt_of_le hg' hb.size
    replace hcell := ((bcell hb).1 g (o + i) hg).trans hcell
    replace hcell' := ((bcell hb).1 g' (o' + i) hg').trans hcell'
    have hi' : (i : Int) < (l.length : Int) := by exact_mod_cast hi
    have hi0 : (0 : Int) ≤ (i : Int) := Int.natCast_nonneg i
    clear hr hr' hlb
    go_wp2_with fail
    refine wp_region_here (by kernel_rfl) (by kernel_rfl) ?_
    (repeat (first | (apply wpR_pass rfl; (try simp only [Act.put, List.setIfInBounds_toArray, List.set_cons_succ, List.set_cons_zero])) | (apply wpR_val rfl; (focus (intro w1 hR; obtain ⟨hc, hf⟩ := bcellB hR; (try go_simp); (try exact Eq.refl _); done)); (try simp only [Act.put, List.setIfInBounds_toArray, List.set_cons_succ, List.set_cons_zero])) | (apply wpR_call rfl; (focus (intro w1 hR; obtain ⟨hc, hf⟩ := bcellB hR; (try go_simp); (try exact And.intro rfl rfl); done)); (focus (intro w1 hR; first | exact ().at_ (by first | omega | (simp; done) | (simp; omega)) hR)); (try simp only [Act.put, List.setIfInBounds_toArray, List.set_cons_succ, List.set_cons_zero])) | (apply wpR_val_want rfl; (focus (intro w1 hR; obtain ⟨hc, hf⟩ := bcellB hR; (try go_simp); (try exact Eq.refl _); done)); (try simp only [Act.put, List.setIfInBounds_toArray, List.set_cons_succ, List.set_cons_zero])) | (apply wpR_call_want rfl; (focus (intro w1 hR; obtain ⟨hc, hf⟩ := bcellB hR; (try go_simp); (try exact And.intro rfl rfl); done)); (focus (intro w1 hR; first | exact ().at_ (by first | omega | (simp; done) | (simp; omega)) hR)); (try simp only [Act.put, List.setIfInBounds_toArray, List.set_cons_succ, List.set_cons_zero]))))
    refine wpR_nil (fun w2 hb2 => ?_)
    go_wp2_with fail
    exact ⟨exU (fun U => ⟨#[.slice (some ⟨g, o, none⟩) l.length c, .slice (some ⟨g', o', none⟩) l.length c', U 2, U 3, .bool false, .int .i64 (i + 1 : Nat), U 6, U 7, U 8, U 9, U 10, U 11, U 12, U 13, U 14, U 15, U 16, U 17, U 18, U 19, U 20, U 21, U 22, U 23, U 24, U 25], []⟩) rfl, hb.trans (hb2.mono hb.size)⟩
  · rintro a w' ⟨⟨U, rfl⟩, hb⟩
    go_wp2_with fail
    go_ret
    exact ⟨rfl, hb⟩

theorem ofInt_i64 (a : Nat) (ha : a < 9223372036854775808) : (BitVec.ofInt 64 (a : Int)).toNat = a := by
  rw [BitVec.ofInt_natCast, BitVec.toNat_ofNat]; exact Nat.mod_eq_of_lt (by omega)
theorem i64_xor_nat (a b : Nat) (ha : a < 9223372036854775808) (hb : b < 9223372036854775808) : bits .xor .i64 (a : Int) (b : Int) = ((a ^^^ b : Nat) : Int) := by
  have hx : a ^^^ b < 2 ^ 63 := Nat.xor_lt_two_pow (by omega) (by omega)
  show IntKind.i64.wrap ((BitVec.ofInt 64 (a : Int) ^^^ BitVec.ofInt 64 (b : Int)).toNat : Int) = _
  rw [BitVec.toNat_xor, ofInt_i64 a ha, ofInt_i64 b hb, IntKind.wrap_i64]
  omega
theorem take_marks {i : Nat} (h : i < 40) : Wi.marks.take (i + 1) = Wi.marks.take i ++ [UInt8.ofNat (165 ^^^ i)] := by
  rw [Wi.take_next (Wi.marks_at h)]

set_option maxRecDepth 100000 in
set_option maxHeartbeats 4000000 in
theorem roomy_calls {w : World} {v : Value} {l : List UInt8} (h : RB w v l) (hl : l.length + 40 ≤ 140737488355328) :
    Calls Tryd.prog 18 #[v] w fun e w' => ∃ v', e = .returned v' ∧ OB w.heap.size w' v' (l ++ Wi.marks) ∧ Below w.heap.size w w' := by
  have hv : RB (w.alloc (.cells #[] 5)) v l := h.below (below_alloc1 _ _)
  have h0 : OB w.heap.size (w.alloc (.cells #[] 5)) (.slice (some ⟨w.heap.size, 0, none⟩) 0 0) [] := OB.new w #[] [] rfl (by simp) (Nat.le_refl _)
  go_enter Tryd.func18, Tryd.ntmps18
  go_wp2_with (first
      | (at_builtin
         refine wpList_append_OB (v := .slice (some ⟨w.heap.size, 0, none⟩) 0 0) rfl (.tmp 5) (.tmp 6) rfl rfl rfl rfl h0 hv (by simp; omega) (by simp) ?_
         intro v1 w1 ho1 hg1 hat1)
      | fail)
  rw [List.nil_append] at ho1
  have hb1 : Below w.heap.size w w1 := (below_alloc1 _ _).trans ((Below.refl _ _).grown hg1 (by simp) (fun k hk => by cases hk; exact Nat.le_refl _))
  clear h0 hv h hg1 hat1
  refine wp_loop_count (fun i a w' => ∃ v', (∃ U : Nat → Value, a = ⟨#[v, U 1, .slice none 0 0, v', .int .i64 i, U 5, U 6, U 7, U 8, U 9, U 10, U 11, U 12, U 13, U 14, U 15, U 16, U 17, U 18], []⟩) ∧ OB w.heap.size w' v' (l ++ Wi.marks.take i) ∧ Below w.heap.size w w') 40 ⟨v1, exU (fun U => ⟨#[v, U 1, .slice none 0 0, v1, .int .i64 0, U 5, U 6, U 7, U 8, U 9, U 10, U 11, U 12, U 13, U 14, U 15, U 16, U 17, U 18], []⟩) rfl, by simpa using ho1, hb1⟩ ?_ ?_
  · rintro i a w' hi ⟨v', ⟨U, rfl⟩, ho, hb⟩
    have hi' : (i : Int) < 40 := by exact_mod_cast hi
    have hi0 : (0 : Int) ≤ (i : Int) := Int.natCast_nonneg i
    have hx : bits .xor .i64 165 (i : Int) = ((165 ^^^ i : Nat) : Int) := i64_xor_nat 165 i (by omega) (by omega)
    have Hl : Hid (#[Value.int .u8 (((165 ^^^ i : Nat) : Int) % 256)] = ([UInt8.ofNat (165 ^^^ i)].map bv).toArray) := by
      show _ = #[bv _]
      rw [bv_of]
    have hlen : (l ++ Wi.marks.take i).length + 1 ≤ 140737488355328 := by
      rw [List.length_append, List.length_take, Wi.marks_length]; omega
    have hsz : w.heap.size ≤ w'.heap.size := hb.size
    have hlt := ho.lt
    go_wp2_with (first
      | (at_builtin
         refine wpList_append_OB (v := v') rfl (.tmp 12) (.tmp 16) rfl rfl rfl rfl (ho.below (below_alloc1 _ _)) (RB.lit _ _ [UInt8.ofNat (165 ^^^ i)] 1 Hl.out rfl (by simp)) hlen (by simp; omega) ?_
         intro v2 w2 ho2 hg2 hat2)
      | fail)
    rw [List.append_assoc, ← take_marks hi] at ho2
    exact ⟨v2, exU (fun U => ⟨#[v, U 1, .slice none 0 0, v2, .int .i64 (i + 1 : Nat), U 5, U 6, U 7, U 8, U 9, U 10, U 11, U 12, U 13, U 14, U 15, U 16, U 17, U 18], []⟩) rfl, ho2, (hb.trans ((below_alloc1 _ _).mono hsz)).grown hg2 (by simp; omega) (fun k hk => (hlt k hk).1)⟩
  · rintro a w' ⟨v', ⟨U, rfl⟩, ho, hb⟩
    go_wp2_with fail
    go_ret
    exact ⟨v', rfl, by simpa [List.take_of_length_le (show Wi.marks.length ≤ 40 from Nat.le_refl _)] using ho, hb⟩

set_option maxRecDepth 100000 in
set_option maxHeartbeats 4000000 in
theorem given_calls {w : World} {vf v : Value} {l : List UInt8} {B : Nat} (hf : OB B w vf (l ++ Wi.marks)) (h : RB w v l) :
    Calls Tryd.prog 19 #[vf, v] w fun e w' => ∃ v', e = .returned v' ∧ w = w' ∧ RB w v' l ∧ (∀ k, v'.ownBlock = some k → vf.ownBlock = some k) := by
  obtain ⟨g, cap, rfl, hB, hg, hn, hc, hcell, hfr⟩ := hf.form (by simp [Wi.marks])
  obtain ⟨p, c, rfl, h1, h2, h3, hr⟩ := h
  rw [List.length_append, Wi.marks_length] at hn
  have hll : (l ++ Wi.marks).length = l.length + 40 := by rw [List.length_append, Wi.marks_length]
  have hm : maxLen = 9223372036854775807 := rfl
  rw [hm] at hc
  cases p with
  | none =>
    have hl : l = [] := by
      cases l with
      | nil => rfl
      | cons b r => obtain ⟨_, _, e, _⟩ := hr 0 b rfl; cases e
    subst hl
    go_enter Tryd.func19, Tryd.ntmps19
    go_wp2_with fail
    go_ret
    exact ⟨_, rfl, rfl, RB.nil_ w, fun k hk => by cases hk⟩
  | some a =>
    have hcl : (l.length : Int) ≤ (cap : Int) := by omega
    go_enter Tryd.func19, Tryd.ntmps19
    go_wp2_with fail
    go_ret
    refine ⟨_, rfl, rfl, ⟨_, cap, rfl, by omega, by omega, h3, fun i b hb => ⟨g, 0, rfl, hg, ?_⟩⟩, fun k hk => hk⟩
    rw [Nat.zero_add]
    refine hcell i b ?_
    rw [List.getElem?_append_left (List.getElem?_eq_some_iff.1 hb).1]
    exact hb

set_option maxRecDepth 100000 in
set_option maxHeartbeats 4000000 in
theorem untouched_calls {w : World} {vf v : Value} {l : List UInt8} {B : Nat} (hf : OB B w vf (l ++ Wi.marks)) (h : RB w v l) :
    Pur Tryd.prog 24 #[vf, v] w (.bool true) := by
  unfold Pur
  have hmax := hf.2
  obtain ⟨g, cap, rfl, hB, hg, hn, hc, hcell, hfr⟩ := hf.form (by simp [Wi.marks])
  have hrb : RB w (.slice (some ⟨g, 0, none⟩) l.length cap) l := by
    rw [List.length_append, Wi.marks_length] at hn
    refine ⟨_, cap, rfl, by omega, hc, h.len, fun i b hb => ⟨g, 0, rfl, hg, ?_⟩⟩
    rw [Nat.zero_add]
    refine hcell i b ?_
    rw [List.getElem?_append_left (List.getElem?_eq_some_iff.1 hb).1]
    exact hb
  have hsame := same_calls hrb h
  obtain ⟨p, c, rfl, h1, h2, h3, hr⟩ := h
  rw [List.length_append, Wi.marks_length] at hn hmax
  have hll : (l ++ Wi.marks).length = l.length + 40 := by rw [List.length_append, Wi.marks_length]
  have hm : maxLen = 9223372036854775807 := rfl
  rw [hm] at hc
  have hcl : (l.length : Int) ≤ (cap : Int) := by omega
  rw [hll]
  clear hrb hr hf hll
  go_enter Tryd.func24, Tryd.ntmps24
  go_wp2_with (first | (go_at_call 22; refine hsame.out.mono ?_; rintro e w1 ⟨rfl, hb1⟩) | fail)
  refine wp_loop_count (fun i a w' => (∃ U : Nat → Value, a = ⟨#[.slice (some ⟨g, 0, none⟩) (l.length + 40) cap, .slice p l.length c, U 2, U 3, .bool false, .int .i64 i, U 6, U 7, U 8, U 9, U 10, U 11, U 12, U 13, U 14, U 15, U 16, U 17, U 18, U 19, U 20, U 21, U 22, U 23, U 24, U 25, U 26, U 27, U 28, U 29, U 30, U 31, U 32, U 33, U 34, U 35], []⟩) ∧ w' = w1) 40 ⟨exU (fun U => ⟨#[.slice (some ⟨g, 0, none⟩) (l.length + 40) cap, .slice p l.length c, U 2, U 3, .bool false, .int .i64 0, U 6, U 7, U 8, U 9, U 10, U 11, U 12, U 13, U 14, U 15, U 16, U 17, U 18, U 19, U 20, U 21, U 22, U 23, U 24, U 25, U 26, U 27, U 28, U 29, U 30, U 31, U 32, U 33, U 34, U 35], []⟩) rfl, rfl⟩ ?_ ?_
  · rintro i a w' hi ⟨⟨U, rfl⟩, rfl⟩
    have hi' : (i : Int) < 40 := by exact_mod_cast hi
    have hi0 : (0 : Int) ≤ (i : Int) := Int.natCast_nonneg i
    have hx : bits .xor .i64 165 (i : Int) = ((165 ^^^ i : Nat) : Int) := i64_xor_nat 165 i (by omega) (by omega)
    have hcl1 : w'.cell? ⟨g, l.length + i, none⟩ = some (bv (UInt8.ofNat (165 ^^^ i))) := by
      refine ((bcell hb1).1 g _ hg).trans (hcell _ _ ?_)
      rw [List.getElem?_append_right (by omega), Nat.add_sub_cancel_left]
      exact Wi.marks_at hi
    rw [bv_of] at hcl1
    clear hcell
    go_wp2_with fail
    exact ⟨exU (fun U => ⟨#[.slice (some ⟨g, 0, none⟩) (l.length + 40) cap, .slice p l.length c, U 2, U 3, .bool false, .int .i64 (i + 1 : Nat), U 6, U 7, U 8, U 9, U 10, U 11, U 12, U 13, U 14, U 15, U 16, U 17, U 18, U 19, U 20, U 21, U 22, U 23, U 24, U 25, U 26, U 27, U 28, U 29, U 30, U 31, U 32, U 33, U 34, U 35], []⟩) rfl, trivial⟩
  · rintro a w' ⟨⟨U, rfl⟩, rfl⟩
    go_wp2_with fail
    go_ret
    exact ⟨rfl, hb1⟩

/-- A byte laid over another. -/
theorem OB.store {w : World} {B g n cap : Nat} {l : List UInt8} (h : OB B w (.slice (some ⟨g, 0, none⟩) n cap) l) (i : Nat) (b : UInt8) :
    OB B (w.setCell ⟨g, i, none⟩ (bv b)) (.slice (some ⟨g, 0, none⟩) n cap) (l.set i b) ∧ w.grownBy (w.setCell ⟨g, i, none⟩ (bv b)) (some g) := by
  have hn : n = l.length := by obtain ⟨p, c, e, _⟩ := h.rb; simp only [Value.slice.injEq] at e; exact e.2.1
  subst hn
  have hs := World.ownsRow.stored h.1 i (bv b)
  refine ⟨⟨?_, by simpa using h.2⟩, hs.2⟩
  rw [List.length_set, List.map_set]
  exact hs.1

set_option maxRecDepth 100000 in
set_option maxHeartbeats 4000000 in
theorem spoil_calls {w : World} {v : Value} {l : List UInt8} {B : Nat} (h : OB B w v l) :
    Calls Tryd.prog 25 #[v] w fun e w' => e = .returned (.tuple #[]) ∧ (∃ l', OB B w' v l') ∧ w.grownBy w' v.ownBlock := by
  cases l with
  | nil =>
    obtain ⟨p, c, rfl, h1, h2, h3, hr⟩ := h.rb
    go_enter Tryd.func25, Tryd.ntmps25
    go_wp2_with fail
    refine wp_loop_count (fun i a w' => (∃ U : Nat → Value, a = ⟨#[.slice p 0 c, U 1, .int .i64 i, U 3, U 4, U 5, U 6, U 7, U 8, U 9, U 10, U 11, U 12, U 13, U 14, U 15, U 16], []⟩) ∧ w' = w) 0 ⟨exU (fun U => ⟨#[.slice p 0 c, U 1, .int .i64 0, U 3, U 4, U 5, U 6, U 7, U 8, U 9, U 10, U 11, U 12, U 13, U 14, U 15, U 16], []⟩) rfl, rfl⟩ (fun i a w' hi => absurd hi (by omega)) ?_
    rintro a w' ⟨⟨U, rfl⟩, rfl⟩
    go_wp2_with fail
    go_end0
    exact ⟨rfl, ⟨[], h⟩, World.grownBy.refl _ _⟩
  | cons b0 r =>
    obtain ⟨g, cap, rfl, hB, hg, hn, hc, hcell, hfr⟩ := h.form (by simp)
    generalize hll : (b0 :: r).length = n at *
    have hmx : n ≤ 140737488355328 := by have := h.2; omega
    have hl0 : ∃ l0 : List UInt8, l0.length = n ∧ OB B w (.slice (some ⟨g, 0, none⟩) n cap) l0 := ⟨_, hll, h⟩
    clear hcell hfr h hll
    go_enter Tryd.func25, Tryd.ntmps25
    go_wp2_with fail
    refine wp_loop_count (fun i a w' => (∃ U : Nat → Value, a = ⟨#[.slice (some ⟨g, 0, none⟩) n cap, U 1, .int .i64 i, U 3, U 4, U 5, U 6, U 7, U 8, U 9, U 10, U 11, U 12, U 13, U 14, U 15, U 16], []⟩) ∧ w.grownBy w' (some g) ∧ ∃ l0 : List UInt8, l0.length = n ∧ OB B w' (.slice (some ⟨g, 0, none⟩) n cap) l0) n ⟨exU (fun U => ⟨#[.slice (some ⟨g, 0, none⟩) n cap, U 1, .int .i64 0, U 3, U 4, U 5, U 6, U 7, U 8, U 9, U 10, U 11, U 12, U 13, U 14, U 15, U 16], []⟩) rfl, World.grownBy.refl _ _, hl0⟩ ?_ ?_
    · rintro i a w' hi ⟨⟨U, rfl⟩, hgr, l0, hlen, ho⟩
      obtain ⟨b, hb⟩ : ∃ b, l0[i]? = some b := ⟨l0[i], List.getElem?_eq_getElem (by omega)⟩
      obtain ⟨g', cap', e, _, hg1, _, _, hcell, hfr⟩ := ho.form (by intro e; subst e; simp at hlen; omega)
      simp only [Value.slice.injEq, Option.some.injEq, Addr.mk.injEq, and_true, true_and] at e
      obtain ⟨e1, -, e3⟩ := e
      subst e1 e3
      have hcl := hcell i b hb
      have hfz := hfr i
      have hi' : (i : Int) < (n : Int) := by exact_mod_cast hi
      have hi0 : (0 : Int) ≤ (i : Int) := Int.natCast_nonneg i
      have hx : bits .xor .u8 (b.toNat : Int) 255 = (((b ^^^ 255 : UInt8).toNat : Nat) : Int) := by
        rw [UInt8.toNat_xor]; exact u8_xor_nat b.toNat 255 (by have := b.toNat_lt; omega) (by omega)
      have hst := ho.store i (b ^^^ 255)
      have Hst := Lib.hid hst
      have Hlen := Lib.hid hlen
      clear hcell hfr hst hb hlen
      go_wp2_with fail
      exact ⟨exU (fun U => ⟨#[.slice (some ⟨g, 0, none⟩) n cap, U 1, .int .i64 (i + 1 : Nat), U 3, U 4, U 5, U 6, U 7, U 8, U 9, U 10, U 11, U 12, U 13, U 14, U 15, U 16], []⟩) rfl, hgr.trans Hst.out.2, _, by simpa using Hlen.out, Hst.out.1⟩
    · rintro a w' ⟨⟨U, rfl⟩, hgr, l0, hlen, ho⟩
      go_wp2_with fail
      go_end0
      exact ⟨rfl, ⟨l0, ho⟩, hgr⟩

/-- A frame as a value. -/
abbrev frameV (k : Int) (f t s a : Nat) (v : Value) : Value := .agg #[.int .i64 k, .int .u32 f, .int .u32 t, .int .u32 s, .int .u32 a, v]

set_option maxRecDepth 100000 in
set_option maxHeartbeats 4000000 in
theorem sameFrame_calls {w : World} {va vb : Value} {l : List UInt8} (k : Int) (f t s a : Nat) (h : RB w va l) (h' : RB w vb l) :
    Pur Tryd.prog 34 #[frameV k f t s a va, frameV k f t s a vb] w (.bool true) := by
  unfold Pur
  have hs := same_calls (h.below (below_alloc2 w (.cells #[.int .i64 k, .int .u32 f, .int .u32 t, .int .u32 s, .int .u32 a, va] 50) (.cells #[.int .i64 k, .int .u32 f, .int .u32 t, .int .u32 s, .int .u32 a, vb] 50))) (h'.below (below_alloc2 w _ _))
  go_enter Tryd.func34, Tryd.ntmps34
  go_wp2_with (first | (go_at_call 22; refine hs.out.mono ?_; rintro e w1 ⟨rfl, hb1⟩) | fail)
  go_ret
  exact ⟨rfl, (below_alloc2 w _ _).trans (hb1.mono (by simp; omega))⟩
end Go.Proofs.YtbgfoobcpacfeaaDoor

/- The statements' own functions: copied, ownPacket, samePacket. -/
namespace Go.Proofs.YtbgfoobcpacfeaaDoor
open Go.RowKit
set_option maxRecDepth 100000
set_option linter.unusedVariables false
set_option linter.unusedSimpArgs false

set_option maxHeartbeats 4000000 in
theorem copied_calls {w : World} {v : Value} {l : List UInt8} (h : RB w v l) :
    Calls Tryd.prog 30 #[v] w fun e w' => ∃ v', e = .returned v' ∧ OB w.heap.size w' v' l ∧ Below w.heap.size w w' := by
  have hv : RB (w.alloc (.cells #[] 5)) v l := h.below (below_alloc1 _ _)
  have hm0 : Mk w.heap.size w (w.alloc (.cells #[] 5)) (.slice (some ⟨w.heap.size, 0, none⟩) 0 0) [] := Mk.lit (Nat.le_refl _) (Below.refl _ _) #[] [] 0 rfl rfl (by simp)
  have hlen := h.len
  go_enter Tryd.func30, Tryd.ntmps30
  go_wp2_with (first
    | (at_builtin
       refine wpList_append_Mk (.slice (some ⟨w.heap.size, 0, none⟩) 0 0) l (.tmp 3) (.tmp 4) rfl rfl rfl rfl rfl hm0 hv (by simpa using hlen) ?_
       intro v1 w1 hm1)
    | fail)
  go_ret
  exact ⟨_, rfl, by simpa using hm1.own, hm1.below⟩

theorem neq_none (w : World) (n c : Nat) : (binOp .neq 32 (.slice none n c) (.slice none 0 0)).run Tryd.prog w = .ok (.bool false) w := by kernel_rfl
theorem neq_slice (w : World) (a : Option Addr) (n c : Nat) : (binOp .neq 32 (.slice a n c) (.slice none 0 0)).run Tryd.prog w = .ok (.bool a.isSome) w := by
  cases a with
  | none => exact neq_none w n c
  | some a => exact neq_some w a n c

theorem box_pk {ρ : Operand → Value} {o : Oper} {x : Operand} {cs : Array Value} (ho : o.op = .box 34 x) (hx : ρ x = .agg cs) (w : World) : (execOp ρ o).run Tryd.prog w = .ok (.value (.pointer (some ⟨w.heap.size, 0, none⟩))) (w.alloc (.cells cs 34)) := by
  unfold execOp
  rw [ho]
  simp only [hx]
  kernel_rfl
theorem results_cellAt {P : Program} {fn : Func} {w : World} {t : Nat} {T : TypeId} {R0 : Nat} {v : Value} {tmps : Array Value} (hr : fn.results = #[.cell t T]) (h2 : tmps.getD t undef = .pointer (some ⟨R0, 0, none⟩)) (h : (loadVar T ⟨R0, 0, none⟩).run P w = .ok v w) :
    (results fn tmps).run P w = .ok v w := by
  simp only [results, hr]
  simp only [Array.getD_eq_getD_getElem?] at h2
  simp [h2, asAddr, h]

set_option maxHeartbeats 8000000 in
theorem ownP_calls {w : World} {pv : Value} {p : Wi.Pk} (hp : p.Ok) (hr : RB w pv p.data) :
    Calls Tryd.prog 28 #[.agg (pkL p pv).toArray] w fun e w' => ∃ v', e = .returned (.agg (pkL p v').toArray) ∧ RB w' v' p.data ∧ Below w.heap.size w w' := by
  obtain ⟨a, c, hpv⟩ := hr.form
  have hone : pv.oneCell' = true := by rw [hpv]; rfl
  have hb1 := below_alloc1 w (.cells (pkL p pv).toArray 34)
  have hbx : PkAt (w.alloc (.cells (pkL p pv).toArray 34)) w.heap.size p pv := heap_new w (.cells (pkL p pv).toArray 34) w.heap.size rfl
  have hs1 : (w.alloc (.cells (pkL p pv).toArray 34)).heap.size = w.heap.size + 1 := by simp
  generalize hcs : (pkL p pv).toArray = cs at hb1 hbx hs1 ⊢
  go_enter Tryd.func28, Tryd.ntmps28
  go_upto_region 0 with fail
  rename_i hnext
  refine wp_region_lit ?_
  refine Og.st_start (n := 11) rfl fun a1 hF => ?_
  refine Og.st_val (w' := w.alloc (.cells cs 34)) (.pointer (some ⟨w.heap.size, 0, none⟩)) hF rfl rfl (by decide) (box_pk rfl rfl w) fun a1 hF => ?_
  generalize w.alloc (.cells cs 34) = w1 at *
  refine Og.st_val (w' := w1.alloc (.cells (pkL (Wi.Pk.zero 0) (.slice none 0 0)).toArray 34)) (.pointer (some ⟨w1.heap.size, 0, none⟩)) hF rfl rfl (by decide) (alloc_pk rfl w1) fun a1 hF => ?_
  have hb2 := below_alloc1 w1 (.cells (pkL (Wi.Pk.zero 0) (.slice none 0 0)).toArray 34)
  have hz2 : PkAt (w1.alloc (.cells (pkL (Wi.Pk.zero 0) (.slice none 0 0)).toArray 34)) w1.heap.size (Wi.Pk.zero 0) (.slice none 0 0) := heap_new w1 _ _ rfl
  generalize w1.alloc (.cells (pkL (Wi.Pk.zero 0) (.slice none 0 0)).toArray 34) = w2 at *
  rw [hs1] at *
  have hP2 := hbx.belowB (by omega) hb2
  have hb02 := hb1.trans (hb2.mono (Nat.le_succ _))
  have hr2 := hr.below hb02
  refine wpList_nil ?_
  obtain ⟨U, rfl⟩ := Og.Fr.lit_ex hF (fun U => ⟨#[U 0, .pointer (some ⟨w.heap.size, 0, none⟩), .pointer (some ⟨w.heap.size + 1, 0, none⟩), U 3, U 4, U 5, U 6, U 7, U 8, U 9, U 10], []⟩) (by kernel_rfl)
  clear hF
  refine hnext _ _ ?_
  clear hnext
  have hc42 := hP2.cd hp
  have hlt2 := hP2.lt
  have hz2l := hz2.lt
  generalize hnn : p.data.length = n at hpv
  subst hpv
  clear hnn hcs hbx
  have hne := fun w => neq_slice w a n c
  cases ha : a.isSome
  · rw [ha] at hne
    go_upto_region 3 with fail
    rename_i hnext
    refine wp_region_lit ?_
    refine Og.st_start (n := 11) rfl fun a1 hF => ?_
    refine Og.st_same (.agg (pkL p (.slice a n c)).toArray) hF rfl rfl (by decide) (Og.exec_load rfl (load_pk hP2 hp)) fun a1 hF => ?_
    refine Og.st_skip (w' := w2.setCells (w.heap.size + 1) 0 (pkL p (.slice a n c))) hF rfl rfl
      (exec_store (o := 0) (vs := pkL p (.slice a n c)) (cs := pkL (Wi.Pk.zero 0) (.slice none 0 0)) rfl rfl rfl hz2 (by rw [pkL_length hp, pkL_length (Wi.Pk.zero_ok 0)]; decide) (by rw [pkL_length hp]; exact pk_i) (pkL_one p (.slice a n c) hone)) fun a1 hF => ?_
    have hP3 := PkAt.store hz2 0 _ p (.slice a n c) (set_all hp (Wi.Pk.zero_ok 0))
    have hgs := setCells_grown w2 (w.heap.size + 1) 0 (pkL p (.slice a n c))
    have hb3 : Below w.heap.size w (w2.setCells (w.heap.size + 1) 0 (pkL p (.slice a n c))) := hb02.grown hgs hb02.size (fun k hk => by injection hk with hk; omega)
    generalize w2.setCells (w.heap.size + 1) 0 (pkL p (.slice a n c)) = w3 at *
    refine wpList_nil ?_
    refine hnext _ _ (wp_ret ?_)
    (try simp only [Exit.inBlock, Exit.then])
    refine bodyPost_ret (results_cellAt rfl (hF.2.2 2) (by simpa [Instr.loadAt, Instr.sureAddr] using load_pk hP3 hp)) hF.1 ?_
    exact ⟨_, rfl, hr.below hb3, hb3⟩
  · rw [ha] at hne
    go_wp2_with fail
    refine (copied_calls hr2).mono ?_
    rintro e w3 ⟨v', rfl, hv', hb3⟩
    have hP3 := hP2.below hb3
    have hz3 := hz2.below hb3
    have hlt3 := hP3.lt
    have hc43 := hP3.cd hp
    have hfz : w3.frozen? ⟨w.heap.size, 42, none⟩ = false := by simp [World.frozen?, show w3.heap[w.heap.size]? = _ from hP3]
    obtain ⟨dp, dc, hdvf⟩ := hv'.rb.form
    have h1c : v'.oneCell' = true := by rw [hdvf]; rfl
    have hdlt : ∀ k, v'.ownBlock = some k → w2.heap.size ≤ k := fun k e => (hv'.lt k e).1
    have hgs := setCells_grown w3 w.heap.size 42 [v']
    have hP4 := hP3.store 42 [v'] p v' (set_data p (.slice a n c) v' p.data hp)
    have hz4 : PkAt (w3.setCells w.heap.size 42 [v']) (w.heap.size + 1) (Wi.Pk.zero 0) (.slice none 0 0) := hz3.grown hgs (fun e => by injection e; omega)
    have hv4 : RB (w3.setCells w.heap.size 42 [v']) v' p.data := hv'.rb.grown hgs (fun _ g e e' => by have := (hv'.lt g e).1; injection e' with e'; omega)
    have hb04 : Below w.heap.size w (w3.setCells w.heap.size 42 [v']) := (hb02.trans (hb3.mono hb02.size)).grown hgs (by have := hb02.size; have := hb3.size; omega) (fun k hk => by injection hk with hk; omega)
    generalize hdn : p.data.length = dn at hdvf
    subst hdvf
    go_upto_region 3 with fail
    rename_i hnext
    show Code.wp _ _ _ _ (w3.setCells w.heap.size 42 [.slice dp dn dc])
    generalize w3.setCells w.heap.size 42 [.slice dp dn dc] = w4 at *
    refine wp_region_lit ?_
    refine Og.st_start (n := 11) rfl fun a1 hF => ?_
    refine Og.st_same (.agg (pkL p (.slice dp dn dc)).toArray) hF rfl rfl (by decide) (Og.exec_load rfl (load_pk hP4 hp)) fun a1 hF => ?_
    refine Og.st_skip (w' := w4.setCells (w.heap.size + 1) 0 (pkL p (.slice dp dn dc))) hF rfl rfl
      (exec_store (o := 0) (vs := pkL p (.slice dp dn dc)) (cs := pkL (Wi.Pk.zero 0) (.slice none 0 0)) rfl rfl rfl hz4 (by rw [pkL_length hp, pkL_length (Wi.Pk.zero_ok 0)]; decide) (by rw [pkL_length hp]; exact pk_i) (pkL_one p _ h1c)) fun a1 hF => ?_
    have hP5 := PkAt.store hz4 0 _ p (.slice dp dn dc) (set_all hp (Wi.Pk.zero_ok 0))
    have hgs5 := setCells_grown w4 (w.heap.size + 1) 0 (pkL p (.slice dp dn dc))
    have hb5 : Below w.heap.size w (w4.setCells (w.heap.size + 1) 0 (pkL p (.slice dp dn dc))) := hb04.grown hgs5 hb04.size (fun k hk => by injection hk with hk; omega)
    have hv5 : RB (w4.setCells (w.heap.size + 1) 0 (pkL p (.slice dp dn dc))) (.slice dp dn dc) p.data := hv4.grown hgs5 (fun _ g e e' => by have := hdlt g e; injection e' with e'; omega)
    generalize w4.setCells (w.heap.size + 1) 0 (pkL p (.slice dp dn dc)) = w5 at *
    refine wpList_nil ?_
    refine hnext _ _ (wp_ret ?_)
    (try simp only [Exit.inBlock, Exit.then])
    refine bodyPost_ret (results_cellAt rfl (hF.2.2 2) (by simpa [Instr.loadAt, Instr.sureAddr] using load_pk hP5 hp)) hF.1 ?_
    exact ⟨_, rfl, hv5, hb5⟩
end Go.Proofs.YtbgfoobcpacfeaaDoor

/- The statements' own functions: samePacket. -/
namespace Go.Proofs.YtbgfoobcpacfeaaDoor
open Go.RowKit
set_option maxRecDepth 100000
set_option linter.unusedVariables false
set_option linter.unusedSimpArgs false

set_option maxHeartbeats 8000000 in
theorem samePk_calls {w : World} {va vb : Value} {p : Wi.Pk} (hp : p.Ok) (ha : RB w va p.data) (hb : RB w vb p.data) :
    Pur Tryd.prog 23 #[.agg (pkL p va).toArray, .agg (pkL p vb).toArray] w (.bool true) := by
  unfold Pur
  have h1 : PkAt (w.alloc (.cells (pkL p va).toArray 34)) w.heap.size p va := heap_new w _ _ rfl
  have hb1 := below_alloc1 w (.cells (pkL p va).toArray 34)
  have hs1 : (w.alloc (.cells (pkL p va).toArray 34)).heap.size = w.heap.size + 1 := by simp
  generalize hca : (pkL p va).toArray = ca at h1 hb1 hs1 ⊢
  generalize hcb : (pkL p vb).toArray = cb at ⊢
  have h2 : PkAt ((w.alloc (.cells ca 34)).alloc (.cells cb 34)) (w.heap.size + 1) p vb := by rw [← hcb, ← hs1]; exact heap_new _ _ _ rfl
  have hb2 := below_alloc1 (w.alloc (.cells ca 34)) (.cells cb 34)
  have hP := h1.below hb2
  rw [hs1] at hb2
  have hb02 := hb1.trans (hb2.mono (Nat.le_succ _))
  have hs2 : ((w.alloc (.cells ca 34)).alloc (.cells cb 34)).heap.size = w.heap.size + 2 := by simp
  go_enter Tryd.func23, Tryd.ntmps23
  go_upto_region 1 with fail
  rename_i hnext
  generalize (w.alloc (.cells ca 34)).alloc (.cells cb 34) = w2 at *
  have hlA := hP.lt
  have hlB := h2.lt
  have a0 := hP.c0
  have b0 := h2.c0
  have a1 := hP.c1
  have b1 := h2.c1
  have a2 := hP.c2
  have b2 := h2.c2
  have a3 := hP.c3
  have b3 := h2.c3
  have a4 := hP.c4
  have b4 := h2.c4
  have a5 := hP.c5
  have b5 := h2.c5
  have a6 := hP.c6
  have b6 := h2.c6
  have a7 := hP.c7
  have b7 := h2.c7
  have a8 := hP.c8
  have b8 := h2.c8
  have a9 := hP.c9
  have b9 := h2.c9
  go_wp2_with fail
  clear a0 b0 a1 b1 a2 b2 a3 b3 a4 b4 a5 b5 a6 b6 a7 b7 a8 b8 a9 b9
  generalize hA : w.heap.size = A at *
  refine wp_loop_count (fun i a w' => (∃ U : Nat → Value, a = ⟨#[U 0, U 1, .pointer (some ⟨A, 0, none⟩), .pointer (some ⟨A + 1, 0, none⟩), .bool false, U 5, U 6, .int .i64 (i : Nat), U 8, U 9, U 10, U 11, U 12, U 13, U 14, U 15, U 16, U 17, U 18, U 19, U 20, U 21, U 22, U 23, U 24, U 25, U 26, U 27, U 28, U 29, U 30, U 31, U 32, U 33, U 34, U 35, U 36, U 37, U 38, U 39, U 40, U 41, U 42, U 43, U 44, U 45, U 46, U 47, U 48, U 49, U 50, U 51, U 52, U 53, U 54, U 55, U 56, U 57, U 58, U 59, U 60, U 61, U 62, U 63, U 64, U 65, U 66, U 67, U 68, U 69, U 70, U 71, U 72, U 73, U 74, U 75, U 76, U 77, U 78, U 79, U 80, U 81, U 82, U 83, U 84, U 85, U 86, U 87, U 88, U 89, U 90, U 91, U 92, U 93, U 94, U 95], []⟩) ∧ Below w2.heap.size w2 w') 32 ?_ ?_ ?_
  · exact ⟨exU (fun U => ⟨#[U 0, U 1, .pointer (some ⟨A, 0, none⟩), .pointer (some ⟨A + 1, 0, none⟩), .bool false, U 5, U 6, .int .i64 (0 : Nat), U 8, U 9, U 10, U 11, U 12, U 13, U 14, U 15, U 16, U 17, U 18, U 19, U 20, U 21, U 22, U 23, U 24, U 25, U 26, U 27, U 28, U 29, U 30, U 31, U 32, U 33, U 34, U 35, U 36, U 37, U 38, U 39, U 40, U 41, U 42, U 43, U 44, U 45, U 46, U 47, U 48, U 49, U 50, U 51, U 52, U 53, U 54, U 55, U 56, U 57, U 58, U 59, U 60, U 61, U 62, U 63, U 64, U 65, U 66, U 67, U 68, U 69, U 70, U 71, U 72, U 73, U 74, U 75, U 76, U 77, U 78, U 79, U 80, U 81, U 82, U 83, U 84, U 85, U 86, U 87, U 88, U 89, U 90, U 91, U 92, U 93, U 94, U 95], []⟩) rfl, below_alloc2 w2 _ _⟩
  · rintro i a w' hi ⟨⟨U, rfl⟩, hbw⟩
    obtain ⟨x, hx⟩ : ∃ x, p.sum[i]? = some x := ⟨p.sum[i]'(by rw [hp.sum]; exact hi), List.getElem?_eq_getElem _⟩
    have hP' := hP.below hbw
    have h2' := h2.below hbw
    have ca' := hP'.cs i x hx
    have cb' := h2'.cs i x hx
    have hlA' := hP'.lt
    have hlB' := h2'.lt
    have hi0 : (0 : Int) ≤ (i : Int) := Int.natCast_nonneg i
    have hi32 : (i : Int) < 32 := by omega
    have hxx : ((x.toNat : Int) != (x.toNat : Int)) = false := by simp
    have Hb := Lib.hid hbw
    clear hi hx hP' h2' hbw
    go_wp2_with fail
    refine wp_region_here (by kernel_rfl) (by kernel_rfl) ?_
    (repeat (first | (apply wpR_pass rfl; (try simp only [Act.put, List.setIfInBounds_toArray, List.set_cons_succ, List.set_cons_zero])) | (apply wpR_val rfl; (focus (intro w1 hR; obtain ⟨hc, hf⟩ := bcellB hR; (try go_simp); (try exact Eq.refl _); done)); (try simp only [Act.put, List.setIfInBounds_toArray, List.set_cons_succ, List.set_cons_zero])) | (apply wpR_call rfl; (focus (intro w1 hR; obtain ⟨hc, hf⟩ := bcellB hR; (try go_simp); (try exact And.intro rfl rfl); done)); (focus (intro w1 hR; first | exact ().at_ (by first | omega | (simp; done) | (simp; omega)) hR)); (try simp only [Act.put, List.setIfInBounds_toArray, List.set_cons_succ, List.set_cons_zero])) | (apply wpR_val_want rfl; (focus (intro w1 hR; obtain ⟨hc, hf⟩ := bcellB hR; (try go_simp); (try exact Eq.refl _); done)); (try simp only [Act.put, List.setIfInBounds_toArray, List.set_cons_succ, List.set_cons_zero])) | (apply wpR_call_want rfl; (focus (intro w1 hR; obtain ⟨hc, hf⟩ := bcellB hR; (try go_simp); (try exact And.intro rfl rfl); done)); (focus (intro w1 hR; first | exact ().at_ (by first | omega | (simp; done) | (simp; omega)) hR)); (try simp only [Act.put, List.setIfInBounds_toArray, List.set_cons_succ, List.set_cons_zero]))))
    refine wpR_nil ?_
    intro w5 hb5
    go_wp2_with fail
    exact ⟨exU (fun U => ⟨#[U 0, U 1, .pointer (some ⟨A, 0, none⟩), .pointer (some ⟨A + 1, 0, none⟩), .bool false, U 5, U 6, .int .i64 (i + 1 : Nat), U 8, U 9, U 10, U 11, U 12, U 13, U 14, U 15, U 16, U 17, U 18, U 19, U 20, U 21, U 22, U 23, U 24, U 25, U 26, U 27, U 28, U 29, U 30, U 31, U 32, U 33, U 34, U 35, U 36, U 37, U 38, U 39, U 40, U 41, U 42, U 43, U 44, U 45, U 46, U 47, U 48, U 49, U 50, U 51, U 52, U 53, U 54, U 55, U 56, U 57, U 58, U 59, U 60, U 61, U 62, U 63, U 64, U 65, U 66, U 67, U 68, U 69, U 70, U 71, U 72, U 73, U 74, U 75, U 76, U 77, U 78, U 79, U 80, U 81, U 82, U 83, U 84, U 85, U 86, U 87, U 88, U 89, U 90, U 91, U 92, U 93, U 94, U 95], []⟩) rfl, Hb.out.trans (hb5.mono Hb.out.size)⟩
  · rintro a w' ⟨⟨U, rfl⟩, hbw⟩
    have hP' := hP.below hbw
    have h2' := h2.below hbw
    have ca' := hP'.cd hp
    have cb' := h2'.cd hp
    have hlA' := hP'.lt
    have hlB' := h2'.lt
    have hsz2 : A ≤ w2.heap.size := by omega
    have hs := same_calls ((ha.belowB (hA ▸ hb02) (fun hl g e => ha.block hl g e)).below hbw) ((hb.belowB (hA ▸ hb02) (fun hl g e => hb.block hl g e)).below hbw)
    go_wp2_with (first | (go_at_call 22; refine hs.out.mono ?_; rintro e w6 ⟨rfl, hb6⟩) | fail)
    go_ret
    exact ⟨rfl, by rw [hA]; exact hb02.trans ((hbw.mono hsz2).trans (hb6.mono (by have := hbw.size; omega)))⟩
end Go.Proofs.YtbgfoobcpacfeaaDoor

/- The sum of bytes, of both. -/
namespace Go.Proofs.YtbgfoobcpacfeaaDoor
open Go.RowKit
set_option linter.unusedVariables false
set_option linter.unusedSimpArgs false

theorem not32 (c : Nat) (hc : c < 4294967296) : bits .xor .u32 IntKind.u32.max (c : Int) = ((4294967295 - c : Nat) : Int) := by
  have h := u32_xor_nat 4294967295 c (by omega) hc
  have e : (IntKind.u32.max) = ((4294967295 : Nat) : Int) := by decide
  rw [e, h]
  have h2 : 4294967295 ^^^ c = 4294967295 - c := by
    apply Nat.eq_of_testBit_eq
    intro i
    rw [Nat.testBit_xor, show (4294967295 : Nat) = 2 ^ 32 - 1 by rfl, Nat.testBit_two_pow_sub_one, show 2 ^ 32 - 1 - c = 2 ^ 32 - (c + 1) by omega, Nat.testBit_two_pow_sub_succ (by omega)]
    by_cases hi : i < 32 <;> simp [hi]
    exact Nat.testBit_lt_two_pow (Nat.lt_of_lt_of_le (show c < 2 ^ 32 from hc) (Nat.pow_le_pow_right (by decide) (by omega)))
  rw [h2]
theorem not32' (c : Nat) (hc : c < 4294967296) : bits .xor .u32 (c : Int) 4294967295 = ((4294967295 - c : Nat) : Int) := by
  have h := not32 c hc
  have h1 := u32_xor_nat 4294967295 c (by omega) hc
  have h2 := u32_xor_nat c 4294967295 hc (by omega)
  rw [Nat.xor_comm] at h2
  have e : (IntKind.u32.max) = ((4294967295 : Nat) : Int) := by decide
  rw [e, h1] at h
  exact h2.trans h
theorem and1_32 (x : Nat) (hx : x < 4294967296) : bits .and .u32 (x : Int) 1 = ((x % 2 : Nat) : Int) := by
  have h := u32_and_nat x 1 hx (by omega)
  rw [Nat.and_one_is_mod] at h
  exact h

set_option maxRecDepth 100000 in
set_option maxHeartbeats 4000000 in
theorem crcMore_calls {w : World} {v : Value} {l : List UInt8} (c : Nat) (hc : c < 4294967296) (h : RB w v l) : Pur Tryd.prog 94 #[.int .u32 c, v] w (.int .u32 (Wi.crcMore c l : Nat)) := by
  unfold Pur
  obtain ⟨p, cp, rfl, h1, h2, h3, hr⟩ := h
  have hsg : IntKind.u32.signed = false := rfl
  have hn := not32 c hc
  go_enter Tryd.func94, Tryd.ntmps94
  go_wp2_with fail
  refine wp_loop_count (fun i a w' => (∃ U : Nat → Value, a = ⟨#[.int .u32 c, .slice p l.length cp, U 2, U 3, .int .u32 0, .int .u32 (Wi.crcFold (4294967295 - c) (l.take i) : Nat), U 6, U 7, U 8, U 9, .slice p l.length cp, .int .i64 l.length, .int .i64 i, U 13, U 14, U 15, U 16, U 17, U 18, U 19, U 20, U 21, U 22, U 23, U 24, U 25, U 26, U 27, U 28, U 29, U 30, U 31, U 32, U 33], []⟩) ∧ w' = w) l.length ⟨exU (fun U => ⟨#[.int .u32 c, .slice p l.length cp, U 2, U 3, .int .u32 0, .int .u32 (4294967295 - c : Nat), U 6, U 7, U 8, U 9, .slice p l.length cp, .int .i64 l.length, .int .i64 0, U 13, U 14, U 15, U 16, U 17, U 18, U 19, U 20, U 21, U 22, U 23, U 24, U 25, U 26, U 27, U 28, U 29, U 30, U 31, U 32, U 33], []⟩) rfl, rfl⟩ ?_ ?_
  · rintro i a w' hi ⟨⟨U, rfl⟩, rfl⟩
    obtain ⟨b, hb⟩ : ∃ b, l[i]? = some b := ⟨l[i], List.getElem?_eq_getElem hi⟩
    obtain ⟨g, o, rfl, hg, hcell⟩ := hr i b hb
    have hx := Wi.crcFold_lt (x := 4294967295 - c) (by omega) (l.take i)
    have hnext : Wi.crcFold (4294967295 - c) (l.take (i + 1)) = Wi.crcByte (Wi.crcFold (4294967295 - c) (l.take i)) b := by rw [Wi.take_next hb, Wi.crcFold_snoc]
    have Hn := Lib.hid hnext
    clear hnext hb hr hn
    generalize Wi.crcFold (4294967295 - c) (l.take i) = x at *
    have hb8 := b.toNat_lt
    have hxor := u32_xor_nat x b.toNat hx (by omega)
    have hi' : (i : Int) < (l.length : Int) := by exact_mod_cast hi
    have hi0 : (0 : Int) ≤ (i : Int) := Int.natCast_nonneg i
    go_wp2_with fail
    have hy : x ^^^ b.toNat < 4294967296 := Nat.xor_lt_two_pow (n := 32) (by omega) (by omega)
    have Hb : Hid (Wi.crcByte x b = Wi.crcBits 8 (x ^^^ b.toNat)) := rfl
    clear hxor
    generalize x ^^^ b.toNat = y at *
    refine wp_loop_count (fun k a w1 => (∃ U : Nat → Value, a = ⟨#[.int .u32 c, .slice (some ⟨g, o, none⟩) l.length cp, U 2, U 3, .int .u32 0, .int .u32 (Wi.crcBits k y : Nat), U 6, U 7, U 8, U 9, .slice (some ⟨g, o, none⟩) l.length cp, .int .i64 l.length, .int .i64 i, U 13, U 14, U 15, U 16, U 17, U 18, U 19, .int .i64 k, U 21, U 22, U 23, U 24, U 25, U 26, U 27, U 28, U 29, U 30, U 31, U 32, U 33], []⟩) ∧ w1 = w') 8 ⟨exU (fun U => ⟨#[.int .u32 c, .slice (some ⟨g, o, none⟩) l.length cp, U 2, U 3, .int .u32 0, .int .u32 (Wi.crcBits 0 y : Nat), U 6, U 7, U 8, U 9, .slice (some ⟨g, o, none⟩) l.length cp, .int .i64 l.length, .int .i64 i, U 13, U 14, U 15, U 16, U 17, U 18, U 19, .int .i64 0, U 21, U 22, U 23, U 24, U 25, U 26, U 27, U 28, U 29, U 30, U 31, U 32, U 33], []⟩) rfl, rfl⟩ ?_ ?_
    · rintro k a w1 hk ⟨⟨U, rfl⟩, rfl⟩
      have hz := Wi.crcBits_lt hy k
      have Hz : Hid (Wi.crcBits (k + 1) y = Wi.crcBit (Wi.crcBits k y)) := rfl
      generalize Wi.crcBits k y = z at *
      have hk' : (k : Int) < 8 := by exact_mod_cast hk
      have hk0 : (0 : Int) ≤ (k : Int) := Int.natCast_nonneg k
      have ha := and1_32 z hz
      rcases Nat.mod_two_eq_zero_or_one z with e | e
      · have h3 : ((z : Int) % 2 == 1) = false := by rw [show (z : Int) % 2 = ((z % 2 : Nat) : Int) from rfl, e]; rfl
        have Hc : Hid (Wi.crcBit z = z / 2) := by show _ = _; unfold Wi.crcBit; rw [if_neg (by omega)]
        clear e
        go_wp2_with fail
        rw [Hz.out, Hc.out]
        exact ⟨exU (fun U => ⟨#[.int .u32 c, .slice (some ⟨g, o, none⟩) l.length cp, U 2, U 3, .int .u32 0, .int .u32 (z / 2 : Nat), U 6, U 7, U 8, U 9, .slice (some ⟨g, o, none⟩) l.length cp, .int .i64 l.length, .int .i64 (i), U 13, U 14, U 15, U 16, U 17, U 18, U 19, .int .i64 (k + 1 : Nat), U 21, U 22, U 23, U 24, U 25, U 26, U 27, U 28, U 29, U 30, U 31, U 32, U 33], []⟩) rfl, trivial⟩
      · have h3 : ((z : Int) % 2 == 1) = true := by rw [show (z : Int) % 2 = ((z % 2 : Nat) : Int) from rfl, e]; rfl
        have Hc : Hid (Wi.crcBit z = (z / 2) ^^^ 2197175160) := by show _ = _; unfold Wi.crcBit; rw [if_pos e]
        have hx2 : bits .xor .u32 ((z : Int) / 2) 2197175160 = ((z / 2 ^^^ 2197175160 : Nat) : Int) := u32_xor_nat (z / 2) 2197175160 (by omega) (by omega)
        clear e
        go_wp2_with fail
        rw [Hz.out, Hc.out]
        exact ⟨exU (fun U => ⟨#[.int .u32 c, .slice (some ⟨g, o, none⟩) l.length cp, U 2, U 3, .int .u32 0, .int .u32 (z / 2 ^^^ 2197175160 : Nat), U 6, U 7, U 8, U 9, .slice (some ⟨g, o, none⟩) l.length cp, .int .i64 l.length, .int .i64 (i), U 13, U 14, U 15, U 16, U 17, U 18, U 19, .int .i64 (k + 1 : Nat), U 21, U 22, U 23, U 24, U 25, U 26, U 27, U 28, U 29, U 30, U 31, U 32, U 33], []⟩) rfl, trivial⟩
    · rintro a w1 ⟨⟨U, rfl⟩, rfl⟩
      go_wp2_with fail
      rw [Hn.out, Hb.out]
      exact ⟨exU (fun U => ⟨#[.int .u32 c, .slice (some ⟨g, o, none⟩) l.length cp, U 2, U 3, .int .u32 0, .int .u32 (Wi.crcBits 8 y : Nat), U 6, U 7, U 8, U 9, .slice (some ⟨g, o, none⟩) l.length cp, .int .i64 l.length, .int .i64 (i + 1 : Nat), U 13, U 14, U 15, U 16, U 17, U 18, U 19, U 20, U 21, U 22, U 23, U 24, U 25, U 26, U 27, U 28, U 29, U 30, U 31, U 32, U 33], []⟩) rfl, trivial⟩
  · rintro a w' ⟨⟨U, rfl⟩, rfl⟩
    rw [List.take_length]
    have hx := Wi.crcFold_lt (x := 4294967295 - c) (by omega) l
    have hm := not32 _ hx
    clear hn
    go_wp2_with fail
    go_ret
    exact ⟨ret_int (by unfold Wi.crcMore; rfl), Below.refl _ _⟩

set_option maxRecDepth 100000 in
set_option maxHeartbeats 4000000 in
theorem crc_calls {w : World} {v : Value} {l : List UInt8} (h : RB w v l) : Pur Tryd.prog 52 #[v] w (.int .u32 (Wi.crcMore 0 l : Nat)) := by
  unfold Pur
  have hc := crcMore_calls 0 (by decide) h
  obtain ⟨p, cp, rfl, h1, h2, h3, hr⟩ := h
  go_enter Tryd.func52, Tryd.ntmps52
  go_wp2_with (first | (go_at_call 94; refine hc.out.mono ?_; rintro e w1 ⟨rfl, hb1⟩) | fail)
  go_ret
  exact ⟨rfl, hb1⟩


end Go.Proofs.YtbgfoobcpacfeaaDoor

/- A region that draws its order and makes ONE new block (an 'alloc' that waits for nothing, with the stores into it behind all the rest): all other operations as in Reg, each of which leaves what lies as it lies. The alloc floats: it may come anywhere ahead of the tail. -/
namespace Go.Proofs.YtbgfoobcpacfeaaDoor
open Go.RowKit
namespace Fl
section
variable {P : Program} {ops : Array Oper} {md : Region.Mode} {R : World → Prop}

def Gives (P : Program) (R : World → Prop) (v : Value) (w0 : World) : Result Next → Prop
  | .ok (.value u) w' => u = v ∧ R w' ∧ Below w0.heap.size w0 w'
  | .ok .skip w' => v = undef ∧ R w' ∧ Below w0.heap.size w0 w'
  | .ok (.enter f args) w' => Calls P f args w' (fun e w'' => e = .returned v ∧ R w'' ∧ Below w0.heap.size w0 w'')
  | _ => False

/-- The operation comes to v at every world of R. -/
def OpR (P : Program) (R : World → Prop) (o : Oper) (a : Act) (v : Value) : Prop := ∀ w, R w → Gives P R v w ((execOp a.eval o).run P w)

def wpR (P : Program) (ops : Array Oper) (R : World → Prop) (Q : Act → Prop) : List Oper → Act → Prop
  | [], a => Q a
  | o :: rest, a => if Region.wanted o (yielded ops a.tmps) = true then ∃ v, OpR P R o a v ∧ wpR P ops R Q rest (a.put o.dst v) else wpR P ops R Q rest (a.put o.dst undef)

def StR (P : Program) (ops : Array Oper) (R : World → Prop) (i : Nat) (K : Act → Prop) (a : Act) : Prop :=
  match ops[i]? with
  | none => K a
  | some o => if Region.wanted o (yielded ops a.tmps) = true then ∃ v, OpR P R o a v ∧ K (a.put o.dst v) else K (a.put o.dst undef)

theorem StR.mono {i : Nat} {a : Act} {K K' : Act → Prop} (h : ∀ a, K a → K' a) (hh : StR P ops R i K a) : StR P ops R i K' a := by
  unfold StR at *
  split
  · exact h _ (by simpa [*] using hh)
  · rename_i o ho
    simp only [ho] at hh
    split
    · rename_i hw; rw [if_pos hw] at hh; obtain ⟨v, h1, h2⟩ := hh; exact ⟨v, h1, h _ h2⟩
    · rename_i hw; rw [if_neg hw] at hh; exact h _ hh

theorem wpOp_of_StR {i : Nat} {a : Act} {w : World} {K : Act → Prop} {K' : Act → World → Prop} {Q' : Exit → Act → World → Prop} (hR : R w) (h : ∀ a w', R w' → Below w.heap.size w w' → K a → K' a w') (hh : StR P ops R i K a) :
    wpOp P ops Q' i K' a w := by
  unfold StR at hh
  unfold wpOp
  split
  · rename_i ho; simp only [ho] at hh; exact h _ _ hR (Below.refl _ _) hh
  · rename_i o ho
    simp only [ho] at hh
    split
    · rename_i hw
      rw [if_pos hw] at hh
      obtain ⟨v, h1, h2⟩ := hh
      refine .inl ?_
      have h3 := h1 w hR
      unfold Oper.wp
      generalize (execOp a.eval o).run P w = r at h3
      cases r with
      | ok n w' =>
        cases n <;> simp only [Gives] at h3 <;> simp only [Oper.upon]
        case value u => obtain ⟨rfl, h4, h5⟩ := h3; exact h _ _ h4 h5 h2
        case skip => obtain ⟨rfl, h4, h5⟩ := h3; exact h _ _ h4 h5 h2
        case enter f args => exact Calls.mono h3 fun e w'' ⟨he, hw, hw5⟩ => by subst he; exact h _ _ hw hw5 h2
      | halt x w' => simp only [Gives] at h3
    · rename_i hw
      rw [if_neg hw] at hh
      exact h _ _ hR (Below.refl _ _) hh

def YieldsR (P : Program) (ops : Array Oper) (R : World → Prop) (o : Oper) (v : Value) (a : Act) : Prop :=
  (Region.wanted o (yielded ops a.tmps) = true ∧ OpR P R o a v) ∨ (Region.wanted o (yielded ops a.tmps) = false ∧ v = undef)

theorem YieldsR.stR {i : Nat} {o : Oper} {v : Value} {a : Act} (hi : ops[i]? = some o) (hy : YieldsR P ops R o v a) {K : Act → Prop} (h : K (a.put o.dst v)) : StR P ops R i K a := by
  unfold StR
  simp only [hi]
  rcases hy with ⟨hw, hv⟩ | ⟨hw, rfl⟩
  · rw [if_pos hw]; exact ⟨v, hv, h⟩
  · rw [if_neg (by rw [hw]; decide)]; exact h

theorem YieldsR.of_same {o : Oper} {v : Value} {a a' : Act} (hy : YieldsR P ops R o v a) (he : execOp a'.eval o = execOp a.eval o)
    (hw : Region.wanted o (yielded ops a'.tmps) = Region.wanted o (yielded ops a.tmps)) : YieldsR P ops R o v a' := by
  unfold YieldsR OpR at *
  rw [he, hw]
  exact hy

theorem yieldsR_of_stR {i : Nat} {o : Oper} {a : Act} {K : Act → Prop} (hi : ops[i]? = some o) (h : StR P ops R i K a) : ∃ v, YieldsR P ops R o v a ∧ K (a.put o.dst v) := by
  unfold StR at h
  simp only [hi] at h
  by_cases hw : Region.wanted o (yielded ops a.tmps) = true
  · rw [if_pos hw] at h
    obtain ⟨v, h1, h2⟩ := h
    exact ⟨v, .inl ⟨hw, h1⟩, h2⟩
  · rw [if_neg hw] at h
    exact ⟨undef, .inr ⟨by simpa using hw, rfl⟩, h⟩

theorem stR_put {j : Nat} {oi oj : Oper} {v : Value} (hj : ops[j]? = some oj) (hap : oi.apart ops oj = true)
    (hsi : ∀ cs b, oi.op ≠ .select cs b) (hsj : ∀ cs b, oj.op ≠ .select cs b) {K : Act → Prop} {a : Act}
    (hy : YieldsR P ops R oi v a) (h : StR P ops R j K (a.put oi.dst v)) :
    StR P ops R j (fun a' => YieldsR P ops R oi v a' ∧ K (a'.put oi.dst v)) a := by
  obtain ⟨h1, h2, h3⟩ := Oper.apart_spec hap
  have keep : ∀ (a : Act), YieldsR P ops R oi v a → ∀ u, YieldsR P ops R oi v (a.put oj.dst u) := fun a hy u =>
    hy.of_same (execOp_put oi hsi a oj.dst u h3) (wanted_put oi a oj.dst u h3)
  obtain ⟨u, hu, hK⟩ := yieldsR_of_stR hj h
  have hu' : YieldsR P ops R oj u a := hu.of_same (execOp_put oj hsj a oi.dst v h1).symm (wanted_put oj a oi.dst v h1).symm
  exact hu'.stR hj ⟨keep a hy u, by rw [← Act.put_comm a v u h2]; exact hK⟩

/-! ### the head: operations below n, in any order; then L. -/

def wpAnyLR (P : Program) (md : Region.Mode) (ops : Array Oper) (R : World → Prop) (n : Nat) (L : Array Bool → Act → Prop) : Nat → Array Bool → Act → Prop
  | 0, listed, a => L listed a
  | f + 1, listed, a =>
    Region.ready md ops listed ≠ [] ∧ ∀ i ∈ Region.ready md ops listed, i < n ∧ StR P ops R i (wpAnyLR P md ops R n L f (listed.setIfInBounds i true)) a

theorem wpAnyLR_first {n i : Nat} {oi : Oper} {v : Value} {L : Array Bool → Act → Prop} (hi : ops[i]? = some oi) (hsel : ∀ (j : Nat) (o : Oper) cs b, ops[j]? = some o → o.op ≠ .select cs b)
    (hin : i < n) (hwait : ∀ listed, HeadInv md ops n listed → listed.getD i true = false → ∀ j ∈ Region.ready md ops listed, j < n)
    (hdone : ∀ listed a, L listed a → ∀ j ∈ Region.ready md ops listed, n ≤ j) :
    ∀ (f : Nat) (listed : Array Bool) (a : Act), HeadInv md ops n listed →
      (∀ j oj, ops[j]? = some oj → j ≠ i → listed.getD j true = false → (∀ e ∈ oj.after, Region.binds md e = true → e.on ≠ i) → oi.apart ops oj = true) →
      i ∈ Region.ready md ops listed → YieldsR P ops R oi v a →
      wpAnyLR P md ops R n L f (listed.setIfInBounds i true) (a.put oi.dst v) → wpAnyLR P md ops R n L (f + 1) listed a := by
  intro f
  induction f with
  | zero =>
    intro listed a inv _ hr hy H
    have hun := (mem_ready.1 hr).1
    refine ⟨fun h => (by rw [h] at hr; cases hr), fun j hj => ?_⟩
    have hjn : j < n := hwait listed inv hun j hj
    refine ⟨hjn, ?_⟩
    by_cases hji : j = i
    · subst hji; exact hy.stR hi H
    · have := hdone _ _ H j (ready_mono hj hji)
      omega
  | succ f ih =>
    intro listed a inv hfree hr hy H
    have hun := (mem_ready.1 hr).1
    refine ⟨fun h => (by rw [h] at hr; cases hr), fun j hj => ?_⟩
    have hjn : j < n := hwait listed inv hun j hj
    refine ⟨hjn, ?_⟩
    by_cases hji : j = i
    · subst hji; exact hy.stR hi H
    · have h1 := (H.2 j (ready_mono hj hji)).2
      obtain ⟨hjun, oj, hoj, hall⟩ := mem_ready.1 hj
      have hnot : ∀ e ∈ oj.after, Region.binds md e = true → e.on ≠ i := fun e he hb heq => by
        have h1 := hall e he hb
        rw [heq, getD_both hun] at h1
        cases h1
      have h2 := stR_put hoj (hfree j oj hoj hji hjun hnot) (fun cs b => hsel i oi cs b hi) (fun cs b => hsel j oj cs b hoj) hy h1
      have hfree' : ∀ k ok, ops[k]? = some ok → k ≠ i → (listed.setIfInBounds j true).getD k true = false →
          (∀ e ∈ ok.after, Region.binds md e = true → e.on ≠ i) → oi.apart ops ok = true := fun k ok hk hki hun hno => by
        refine hfree k ok hk hki ?_ hno
        by_cases hjk : j = k
        · subst hjk; exact hjun
        · rw [getD_set_ne true hjk] at hun; exact hun
      refine StR.mono (fun a' h3 => ih (listed.setIfInBounds j true) a' (inv.set hj hjn) hfree' (ready_mono hr (Ne.symm hji)) h3.1 ?_) h2
      rw [Array.setIfInBounds_comm _ _ hji]
      exact h3.2


def lexHeadF (md : Region.Mode) (ops : Array Oper) (g n : Nat) : Nat → Nat → Array Bool → Bool
  | 0, _, listed => Region.seqB md ops g n listed
  | f + 1, k, listed => (Region.ready md ops listed).contains k && Region.free md ops listed k && lexHeadF md ops g n f (k + 1) (listed.setIfInBounds k true)

theorem wpAnyLR_lexF {n g : Nat} {Lq : Act → Prop} (hsel : Region.noSelect ops = true)
    (hwait : ∀ i, i < n → ∀ listed, HeadInv md ops n listed → listed.getD i true = false → ∀ j ∈ Region.ready md ops listed, j < n) :
    ∀ (l : List Oper) (k : Nat) (listed : Array Bool) (a : Act), (∀ j, j < l.length → l[j]? = ops[k + j]?) → k + l.length ≤ n → HeadInv md ops n listed →
    lexHeadF md ops g n l.length k listed = true → wpR P ops R Lq l a →
    wpAnyLR P md ops R n (fun listed' a' => Region.seqB md ops g n listed' = true ∧ Lq a') l.length listed a
  | [], k, listed, a, _, hk, _, hB, h => ⟨by simpa [lexHeadF] using hB, h⟩
  | o :: l, k, listed, a, hl, hk, inv, hB, h => by
    have h0 : ops[k]? = some o := by simpa using (hl 0 (by simp)).symm
    simp only [List.length_cons, lexHeadF, Bool.and_eq_true] at hB
    obtain ⟨⟨hr, hf⟩, hB'⟩ := hB
    have hkn : k < n := by simp only [List.length_cons] at hk; omega
    have hr' : k ∈ Region.ready md ops listed := by simpa using hr
    have hst : StR P ops R k (wpR P ops R Lq l) a := by unfold StR; simp only [h0]; exact h
    obtain ⟨v, hy, hK⟩ := yieldsR_of_stR h0 hst
    exact wpAnyLR_first h0 (Region.noSelect_spec hsel) hkn (hwait k hkn) (fun listed' a' hL => seqB_ready hL.1) l.length listed a inv (Region.free_spec h0 hf) hr' hy
      (wpAnyLR_lexF hsel hwait l (k + 1) _ _ (fun j hj => by have := hl (j + 1) (by simp; omega); simpa [Nat.add_assoc, Nat.add_comm 1 j] using this) (by simp only [List.length_cons] at hk; omega) (inv.set hr' hkn) hB' hK)

abbrev ptr (b : Nat) : Value := .pointer (some ⟨b, 0, none⟩)

section float
variable {n g k B : Nat} {s : Tmp} {T : TypeId} {c0 : Array Value} {ok : Oper} {L : Array Bool → Act → Prop} {Q' : Exit → Act → World → Prop}

theorem wpAny_float2 (hk : ops[k]? = some ok) (hkd : ok.dst = some s) (hsel : ∀ (j : Nat) (o : Oper) cs b, ops[j]? = some o → o.op ≠ .select cs b)
    (hap : ∀ i oi, i < n → i ≠ k → ops[i]? = some oi → ok.apart ops oi = true)
    (hL : ∀ listed a b w, R w → L listed a → w.heap[b]? = some (.cells c0 T (0, 0)) → B ≤ b → wpAny P md ops Q' g listed (a.put (some s) (ptr b)) w) :
    ∀ (f : Nat) (listed : Array Bool) (a : Act) (w : World) (b : Nat), R w → w.heap[b]? = some (.cells c0 T (0, 0)) → B ≤ b → listed.getD k true = true → wpAnyLR P md ops R n L f listed a →
      wpAny P md ops Q' (f + g) listed (a.put (some s) (ptr b)) w
  | 0, listed, a, w, b, hw, hb, hB, _, h => by rw [Nat.zero_add]; exact hL _ _ _ _ hw h hb hB
  | f + 1, listed, a, w, b, hw, hb, hB, hkl, h => by
    rw [show f + 1 + g = (f + g) + 1 by omega]
    refine ⟨fun h0 => absurd h0 h.1, fun i hi => ?_⟩
    obtain ⟨hin, hst⟩ := h.2 i hi
    obtain ⟨hun, oi, hoi, _⟩ := mem_ready.1 hi
    have hik : i ≠ k := fun e => by subst e; rw [hkl] at hun; cases hun
    obtain ⟨h1, h2, h3⟩ := Oper.apart_spec (hap i oi hin hik hoi)
    obtain ⟨v, hy, hK⟩ := yieldsR_of_stR hoi hst
    have hy' : YieldsR P ops R oi v (a.put (some s) (ptr b)) :=
      hy.of_same (execOp_put oi (fun cs b => hsel i oi cs b hoi) a (some s) _ (fun d hd => h1 d (hkd.trans hd))) (wanted_put oi a (some s) _ (fun d hd => h1 d (hkd.trans hd)))
    have hc : (a.put (some s) (ptr b)).put oi.dst v = (a.put oi.dst v).put (some s) (ptr b) := Act.put_comm a _ _ (fun d hd => h2 d (hkd.trans hd))
    have hst' : StR P ops R i (fun x => ∃ a', x = a'.put (some s) (ptr b) ∧ wpAnyLR P md ops R n L f (listed.setIfInBounds i true) a') (a.put (some s) (ptr b)) :=
      hy'.stR hoi ⟨_, hc, hK⟩
    refine wpOp_of_StR hw (fun x w' hw' hbl hx => ?_) hst'
    obtain ⟨a', rfl, hx⟩ := hx
    have hlt : b < w.heap.size := by
      rcases Nat.lt_or_ge b w.heap.size with h' | h'
      · exact h'
      · rw [Array.getElem?_eq_none h'] at hb; cases hb
    exact wpAny_float2 hk hkd hsel hap hL f _ a' w' b hw' ((hbl.block _ hlt).trans hb) hB (by rw [getD_set_ne true hik]; exact hkl) hx

theorem wpAny_float (hk : ops[k]? = some ok) (hkd : ok.dst = some s) (hkn : k < n) (hka : ok.after = #[]) (hkg : ok.guard = none) (hsel : ∀ (j : Nat) (o : Oper) cs b, ops[j]? = some o → o.op ≠ .select cs b)
    (hap : ∀ i oi, i < n → i ≠ k → ops[i]? = some oi → ok.apart ops oi = true)
    (hx : ∀ (a : Act) (w : World), (execOp a.eval ok).run P w = .ok (.value (ptr w.heap.size)) (w.alloc (.cells c0 T)))
    (hRB : ∀ w, R w → B ≤ w.heap.size) (hRa : ∀ w, R w → R (w.alloc (.cells c0 T)))
    (hwait : ∀ i, i < n → ∀ listed, HeadInv md ops n listed → listed.getD i true = false → ∀ j ∈ Region.ready md ops listed, j < n)
    (hdone : ∀ listed a, L listed a → ∀ j ∈ Region.ready md ops listed, n ≤ j)
    (hL : ∀ listed a b w, R w → L listed a → w.heap[b]? = some (.cells c0 T (0, 0)) → B ≤ b → wpAny P md ops Q' g listed (a.put (some s) (ptr b)) w) :
    ∀ (f : Nat) (listed : Array Bool) (a : Act) (w : World), R w → listed.getD k true = false → HeadInv md ops n listed → wpAnyLR P md ops R n L f (listed.setIfInBounds k true) a →
      wpAny P md ops Q' (f + 1 + g) listed a w := by
  intro f
  induction f with
  | zero =>
    intro listed a w hw hkl inv h
    have hkr : k ∈ Region.ready md ops listed := mem_ready.2 ⟨hkl, ok, hk, fun e he => by rw [hka] at he; simp at he⟩
    rw [show 0 + 1 + g = g + 1 by omega]
    refine ⟨fun h0 => (by rw [h0] at hkr; cases hkr), fun i hi => ?_⟩
    by_cases hik : i = k
    · subst hik
      unfold wpOp
      simp only [hk]
      rw [if_pos (by simp [Region.wanted, hkg])]
      refine .inl ?_
      unfold Oper.wp
      rw [hx]
      simp only [Oper.upon, hkd]
      exact hL _ _ _ _ (hRa _ hw) h (heap_new _ _ _ rfl) (hRB _ hw)
    · have := hdone _ _ h i (ready_mono hi hik)
      have := hwait k hkn listed inv hkl i hi
      omega
  | succ f ih =>
    intro listed a w hw hkl inv h
    have hkr : k ∈ Region.ready md ops listed := mem_ready.2 ⟨hkl, ok, hk, fun e he => by rw [hka] at he; simp at he⟩
    have hks : k < listed.size := by rw [inv.size]; exact (Array.getElem?_eq_some_iff.1 hk).1
    rw [show f + 1 + 1 + g = (f + 1 + g) + 1 by omega]
    refine ⟨fun h0 => (by rw [h0] at hkr; cases hkr), fun i hi => ?_⟩
    by_cases hik : i = k
    · subst hik
      unfold wpOp
      simp only [hk]
      rw [if_pos (by simp [Region.wanted, hkg])]
      refine .inl ?_
      unfold Oper.wp
      rw [hx]
      simp only [Oper.upon, hkd]
      exact wpAny_float2 hk hkd hsel hap hL (f + 1) _ a _ _ (hRa _ hw) (heap_new _ _ _ rfl) (hRB _ hw) (by simp [hks]) h
    · have hin := hwait k hkn listed inv hkl i hi
      refine wpOp_of_StR hw (fun a' w' hw' _ hx' => ?_) (h.2 i (ready_mono hi hik)).2
      refine ih (listed.setIfInBounds i true) a' w' hw' (by rw [getD_set_ne true hik]; exact hkl) (inv.set hi hin) ?_
      rw [Array.setIfInBounds_comm _ _ hik]
      exact hx'
end float

def floatB (ops : Array Oper) (k : Nat) : Bool :=
  Region.noSelect ops && decide (k + 1 < ops.size) && Region.sinkB .any ops (k + 1) && Region.chainB .any ops (k + 1) &&
  (match ops[k]? with | some ok => ok.after.isEmpty && ok.guard.isNone && (List.range (k + 1)).all (fun i => i == k || match ops[i]? with | some oi => ok.apart ops oi | none => true) | none => false) &&
  lexHeadF .any ops (ops.size - (k + 1)) (k + 1) k 0 ((Array.replicate ops.size false).setIfInBounds k true)

theorem wp_region_float {id : Nat} {Q : Exit → Act → World → Prop} {a : Act} {w W : World} {l : List Oper} {B : Nat} (k : Nat) {ok : Oper} {s : Tmp} {T : TypeId} {c0 : Array Value} (hm : P.follows .mixedOrders = true) (hB : floatB l.toArray k = true)
    (hk : l.toArray[k]? = some ok) (hkd : ok.dst = some s) (hx : ∀ (a : Act) (w : World), (execOp a.eval ok).run P w = .ok (.value (ptr w.heap.size)) (w.alloc (.cells c0 T)))
    (hBW : B ≤ W.heap.size) (hR : Below B W { w with drawn := w.drawn + 1 })
    (h : wpR P l.toArray (Below B W) (fun a' => ∀ b w', Below B W w' → B ≤ b → b < w'.heap.size → wpList P l.toArray Q (l.drop (k + 1)) (a'.put (some s) (ptr b)) (w'.wb b c0 T)) (l.take k) a) : (Code.region id l.toArray true).wp P Q a w := by
  simp only [floatB, hk, Bool.and_eq_true, decide_eq_true_eq] at hB
  obtain ⟨⟨⟨⟨⟨hsel, hn⟩, hs⟩, hc⟩, ⟨hka, hkg⟩, hap⟩, hlex⟩ := hB
  have hn' : k + 1 < l.length := by simpa using hn
  have htl : (l.take k).length = k := by simp; omega
  have hdl : (l.drop (k + 1)).length = l.toArray.size - (k + 1) := by simp
  have hka' : ok.after = #[] := by simpa using hka
  have inv0 : HeadInv .any l.toArray (k + 1) (Array.replicate l.toArray.size false) :=
    ⟨by simp, fun j oj _ hl => (by rw [getD_replicate_false] at hl; cases hl), fun t _ ht => getD_in (by simpa using ht) (getD_replicate_false _ _)⟩
  have hkr : k ∈ Region.ready .any l.toArray (Array.replicate l.toArray.size false) := mem_ready.2 ⟨getD_in (by simp; omega) (getD_replicate_false _ _), ok, hk, fun e he => by rw [hka'] at he; simp at he⟩
  have inv1 := inv0.set hkr (by omega)
  have hwait : ∀ i, i < k + 1 → ∀ listed, HeadInv .any l.toArray (k + 1) listed → listed.getD i true = false → ∀ j ∈ Region.ready .any l.toArray listed, j < k + 1 := fun i hi listed inv hun j hj => by
    rcases Nat.lt_or_ge j (k + 1) with h' | h'
    · exact h'
    · exact absurd hj (tail_waits hs hc hn inv _ i rfl hi hun j h')
  have H := wpAnyLR_lexF (md := .any) (n := k + 1) (g := l.toArray.size - (k + 1)) (R := Below B W) hsel hwait (l.take k) 0 _ a (fun j hj => by
    have hj' : j < k := by rw [htl] at hj; exact hj
    simp [hj']) (by rw [htl]; omega) inv1 (by rw [htl]; exact hlex) h
  rw [htl] at H
  have H2 := wpAny_float (g := l.toArray.size - (k + 1)) (Q' := Q) (B := B) (T := T) (c0 := c0) hk hkd (by omega) hka' (by simpa using hkg) (Region.noSelect_spec hsel) (fun i oi hi hik hoi => by
      have h1 := List.all_eq_true.1 hap i (List.mem_range.2 hi)
      simpa [hik, hoi] using h1) hx (fun w hw => Nat.le_trans hBW hw.size) (fun w hw => hw.alloc (Nat.le_trans hBW hw.size) _) hwait (fun listed' a' hL => seqB_ready hL.1)
      (fun listed' a' b w' hw' hL hb hBb => by
        have hseq := hL.1
        rw [← hdl] at hseq ⊢
        have hlt : b < w'.heap.size := by
          rcases Nat.lt_or_ge b w'.heap.size with h' | h'
          · exact h'
          · rw [Array.getElem?_eq_none h'] at hb; cases hb
        have h3 := hL.2 b w' hw' hBb hlt
        rw [wb_self hb] at h3
        exact wpAny_of_seq (l.drop (k + 1)) (k + 1) listed' _ w' (fun j => by simp) hseq h3) k _ a _ hR (getD_in (by simp; omega) (getD_replicate_false _ _)) inv0 H
  have e : k + 1 + (l.toArray.size - (k + 1)) = l.toArray.size := by omega
  rw [e] at H2
  exact wp_region_any hm H2

theorem wpR_nil {Q : Act → Prop} {a : Act} (h : Q a) : wpR P ops R Q [] a := h
theorem wpR_plain {Q : Act → Prop} {a : Act} {o : Oper} {rest : List Oper} (v : Value) (hg : o.guard = none) (hv : OpR P R o a v) (h : wpR P ops R Q rest (a.put o.dst v)) : wpR P ops R Q (o :: rest) a := by
  unfold wpR
  rw [if_pos (by simp [Region.wanted, hg])]
  exact ⟨v, hv, h⟩
/-- One operation that only computes or reads. -/
theorem wpR_val {Q : Act → Prop} {a : Act} {o : Oper} {rest : List Oper} {v : Value} (hg : o.guard = none) (hv : ∀ w, R w → (execOp a.eval o).run P w = .ok (.value v) w) (h : wpR P ops R Q rest (a.put o.dst v)) : wpR P ops R Q (o :: rest) a :=
  wpR_plain v hg (fun w hw => by rw [hv w hw]; exact ⟨rfl, hw, Below.refl _ _⟩) h
/-- One call, by its contract. -/
theorem wpR_call {Q : Act → Prop} {a : Act} {o : Oper} {rest : List Oper} {v : Value} {f : FuncId} {args : Array Value} {B : Nat} {W : World} (hg : o.guard = none) (hv : ∀ w, Below B W w → (execOp a.eval o).run P w = .ok (.enter f args) w) (hBW : B ≤ W.heap.size)
    (hc : ∀ w, Below B W w → Calls P f args w (fun e w'' => e = .returned v ∧ Below w.heap.size w w'')) (h : wpR P ops (Below B W) Q rest (a.put o.dst v)) : wpR P ops (Below B W) Q (o :: rest) a :=
  wpR_plain v hg (fun w hw => by rw [hv w hw]; exact (hc w hw).mono fun e w'' ⟨he, hb⟩ => ⟨he, hw.trans (hb.mono (Nat.le_trans hBW hw.size)), hb⟩) h
end
end Fl
end Go.Proofs.YtbgfoobcpacfeaaDoor

/- What any bytes are read as: the program's DecodeFrame. -/
namespace Go.Proofs.YtbgfoobcpacfeaaDoor
open Go.RowKit
set_option maxRecDepth 100000
set_option linter.unusedVariables false
set_option linter.unusedSimpArgs false

theorem make4 (w : World) : (Instr.makeSlice 32 (.int .i64 4) (.int .i64 4)).run Tryd.prog w = .ok (.slice (some ⟨w.heap.size, 0, none⟩) 4 4) (w.alloc (.cells #[.int .u8 0, .int .u8 0, .int .u8 0, .int .u8 0] 5)) := by kernel_rfl

set_option maxRecDepth 100000 in
set_option maxHeartbeats 8000000 in
theorem sumOf_calls {w : World} {v : Value} {l : List UInt8} (h : RB w v l) (hl : 26 ≤ l.length) : Pur Tryd.prog 54 #[v] w (.int .u64 (Wi.sumBytes l : Nat)) := by
  unfold Pur
  have h0 := h
  obtain ⟨p, c, rfl⟩ := h.form
  obtain ⟨g, o, rfl, hg, -, hlc, hcm⟩ := h.addr (by intro e; subst e; simp at hl)
  have hm : maxLen = 9223372036854775807 := rfl
  have hcI : (22 : Int) ≤ (c : Int) := by omega
  have hf := h0.front 22 c (by omega) (by omega) hcm
  go_enter Tryd.func54, Tryd.ntmps54
  go_wp2_with fail
  refine (crc_calls hf).out.mono ?_
  rintro e w1 ⟨rfl, hb1⟩
  have hmk := make4 w1
  have hz := RB.lit w1 #[.int .u8 0, .int .u8 0, .int .u8 0, .int .u8 0] [0, 0, 0, 0] 4 rfl rfl (by simp)
  have hb2 := hb1.trans ((below_alloc1 w1 (.cells #[.int .u8 0, .int .u8 0, .int .u8 0, .int .u8 0] 5)).mono hb1.size)
  have hc1 := Wi.crcMore_lt 0 (l.take 22)
  go_wp2_with fail
  refine (crcMore_calls _ hc1 hz).out.mono ?_
  rintro e w2 ⟨rfl, hb3⟩
  replace hb2 := hb2.trans (hb3.mono hb2.size)
  have Hs : Hid (Wi.sumBytes l = Wi.crcMore (Wi.crcMore (Wi.crcMore 0 (l.take 22)) [0, 0, 0, 0]) (l.drop 26)) := by
    show _ = _
    rw [Wi.crcMore_append hc1, Wi.crcMore_append (by decide)]; unfold Wi.sumBytes; rw [List.append_assoc]
  have hc2 := Wi.crcMore_lt (Wi.crcMore 0 (l.take 22)) [0, 0, 0, 0]
  generalize Wi.crcMore (Wi.crcMore 0 (l.take 22)) [0, 0, 0, 0] = cr at *
  have hlI : (26 : Int) ≤ (l.length : Int) := by omega
  clear hmk hz hb3 hf
  by_cases he : c = 26
  · subst he
    have hl0 : l.drop 26 = [] := List.drop_of_length_le hlc
    rw [hl0] at Hs
    have hl26 : l.length = 26 := by omega
    have Hl := Lib.hid hl26
    clear hl26
    go_wp2_with fail
    refine (crcMore_calls _ hc2 (RB.empty _ _ _ (Nat.zero_le _))).out.mono ?_
    rintro e w3 ⟨rfl, hb4⟩
    rw [← Hs.out]
    have hs32 := Wi.crcMore_lt cr []
    rw [← Hs.out] at hs32
    go_wp2_with fail
    go_ret
    exact ⟨rfl, hb2.trans (hb4.mono hb2.size)⟩
  · have hbk := (h0.below hb2).back 26 (c - 26) (by omega) (by omega) (by omega)
    go_wp2_with fail
    refine (crcMore_calls _ hc2 hbk).out.mono ?_
    rintro e w3 ⟨rfl, hb4⟩
    rw [← Hs.out]
    have hs32 := Wi.crcMore_lt cr (l.drop 26)
    rw [← Hs.out] at hs32
    go_wp2_with fail
    go_ret
    exact ⟨rfl, hb2.trans (hb4.mono hb2.size)⟩

/-- The cells of a frame. -/
abbrev frameC (x : Wi.Fr) (v : Value) : Array Value := #[.int .i64 x.kind, .int .u32 x.from_, .int .u32 x.to, .int .u32 x.seq, .int .u32 x.ack, v]
/-- A call that answers a frame, its payload in memory of its own, and a number. -/
def Reads (f : FuncId) (args : Array Value) (w : World) (x : Wi.Fr) (err : Int) : Prop :=
  Calls Tryd.prog f args w fun e w' => ∃ v', e = .returned (.tuple #[.agg (frameC x v'), .int .i64 err]) ∧ OB w.heap.size w' v' x.pay ∧ Below w.heap.size w w'
theorem Reads.out {f : FuncId} {args : Array Value} {w : World} {x : Wi.Fr} {err : Int} (h : Reads f args w x err) :
  Calls Tryd.prog f args w fun e w' => ∃ v', e = .returned (.tuple #[.agg (frameC x v'), .int .i64 err]) ∧ OB w.heap.size w' v' x.pay ∧ Below w.heap.size w w' := h

abbrev zeroFC : Array Value := #[.int .i64 0, .int .u32 0, .int .u32 0, .int .u32 0, .int .u32 0, .slice none 0 0]
theorem alloc_frame (a : Act) (w : World) (o : Oper) (ho : o.op = Op.alloc 50) : (execOp a.eval o).run Tryd.prog w = .ok (.value (Fl.ptr w.heap.size)) (w.alloc (.cells zeroFC 50)) := by
  unfold execOp
  rw [ho]
  rfl
theorem sub4_lt (l : List UInt8) (k : Nat) (h : k + 4 ≤ l.length) : Wi.unbe ((l.drop k).take 4) < 4294967296 := by
  have := Wi.unbe_lt ((l.drop k).take 4)
  rw [List.length_take, List.length_drop, Nat.min_eq_left (by omega)] at this
  exact this
theorem sub4_len (l : List UInt8) (k : Nat) : ((l.drop k).take 4).length ≤ 8 := by rw [List.length_take]; omega
/-- The world behind the cell of the answer. -/
def DW (w w' : World) : Prop := Below (w.heap.size + 1) (w.alloc (.cells zeroFC 50)) w'
section
variable {w w' w'' : World}
theorem DW.blk (h : DW w w') : w'.heap[w.heap.size]? = some (.cells zeroFC 50 (0, 0)) := (Below.block h _ (Nat.lt_succ_self _)).trans (heap_new _ _ _ rfl)
theorem DW.lt (h : DW w w') : w.heap.size < w'.heap.size := heap_lt h.blk
theorem DW.step (h : DW w w') (hb : Below w'.heap.size w' w'') : DW w w'' := Below.trans h (hb.mono h.lt)
theorem DW.below (h : DW w w') : Below w.heap.size w w' := (below_alloc1 w _).trans (Below.mono h (Nat.le_succ _))
theorem DW.rb (h : DW w w') {v : Value} {m : List UInt8} (hr : RB w v m) : RB w' v m := hr.below h.below
theorem DW.cell (h : DW w w') {g : Nat} (hg : g < w.heap.size) (o : Nat) : w'.cell? ⟨g, o, none⟩ = w.cell? ⟨g, o, none⟩ := h.below.cell (p := ⟨g, o, none⟩) hg
end

section
variable {l : List UInt8} {b3 : UInt8}
theorem markOk_no1 (e1 : (((Wi.unbe (l.take 2) : Nat) : Int) != 21062) = true) : Wi.markOk l = false := by
  unfold Wi.markOk
  rw [show (Wi.unbe (l.take 2) == 21062) = false from beq_eq_false_iff_ne.2 (fun h => (bne_iff_ne.1 e1) (by rw [h]; rfl))]; rfl
theorem b3_eq (h : ((b3.toNat : Int) != 1) = false) : b3 = 1 := by
  have h1 : (b3.toNat : Int) = 1 := by simpa using h
  apply UInt8.toNat_inj.1
  show b3.toNat = 1
  omega
theorem markOk_no2 (h3 : l.getD 3 0 = b3) (e2 : ((b3.toNat : Int) != 1) = true) : Wi.markOk l = false := by
  unfold Wi.markOk
  rw [h3, show (b3 == 1) = false from beq_eq_false_iff_ne.2 (fun h => (bne_iff_ne.1 e2) (by rw [h]; rfl)), Bool.and_false]
theorem markOk_yes (h3 : l.getD 3 0 = b3) (e1 : (((Wi.unbe (l.take 2) : Nat) : Int) != 21062) = false) (e2 : ((b3.toNat : Int) != 1) = false) : Wi.markOk l = true := by
  unfold Wi.markOk
  have h1 : ((Wi.unbe (l.take 2) : Nat) : Int) = 21062 := by simpa using e1
  rw [h3, b3_eq e2, show Wi.unbe (l.take 2) = 21062 by omega]
  rfl
variable (hl : ¬ l.length < 26)
include hl
theorem decErr_mark (h : Wi.markOk l = false) : Wi.decErr l = 72 := by unfold Wi.decErr; rw [if_neg hl, if_pos h]
theorem decErr_kind (h : Wi.markOk l = true) (hk : Wi.kindOk (Wi.kindAt l) = false) : Wi.decErr l = 74 := by unfold Wi.decErr; rw [if_neg hl, if_neg (by rw [h]; decide), if_pos hk]
theorem decErr_body (h : Wi.markOk l = true) (hk : Wi.kindOk (Wi.kindAt l) = true) (hc : Wi.carries (Wi.kindAt l) (Wi.lenAt l) = false) : Wi.decErr l = 75 := by
  unfold Wi.decErr; rw [if_neg hl, if_neg (by rw [h]; decide), if_neg (by rw [hk]; decide), if_pos hc]
variable (h : Wi.markOk l = true) (hk : Wi.kindOk (Wi.kindAt l) = true) (hc : Wi.carries (Wi.kindAt l) (Wi.lenAt l) = true)
include h hk hc
theorem decErr_short (h5 : l.length < 26 + Wi.lenAt l) : Wi.decErr l = 71 := by
  unfold Wi.decErr; rw [if_neg hl, if_neg (by rw [h]; decide), if_neg (by rw [hk]; decide), if_neg (by rw [hc]; decide), if_pos h5]
theorem decErr_extra (h5 : ¬ l.length < 26 + Wi.lenAt l) (h6 : 26 + Wi.lenAt l < l.length) : Wi.decErr l = 76 := by
  unfold Wi.decErr; rw [if_neg hl, if_neg (by rw [h]; decide), if_neg (by rw [hk]; decide), if_neg (by rw [hc]; decide), if_neg h5, if_pos h6]
variable (h5 : l.length = 26 + Wi.lenAt l)
include h5
theorem decErr_sum (h7 : Wi.unbe ((l.drop 22).take 4) ≠ Wi.sumBytes l) : Wi.decErr l = 73 := by
  unfold Wi.decErr; rw [if_neg hl, if_neg (by rw [h]; decide), if_neg (by rw [hk]; decide), if_neg (by rw [hc]; decide), if_neg (by omega), if_neg (by omega), if_pos h7]
theorem decErr_ok (h7 : Wi.unbe ((l.drop 22).take 4) = Wi.sumBytes l) : Wi.decErr l = 0 := by
  unfold Wi.decErr; rw [if_neg hl, if_neg (by rw [h]; decide), if_neg (by rw [hk]; decide), if_neg (by rw [hc]; decide), if_neg (by omega), if_neg (by omega), if_neg (by rw [h7]; simp)]
end

theorem big_sub {w w1 : World} {g o c : Nat} {l : List UInt8} (h : RB w (.slice (some ⟨g, o, none⟩) l.length c) l) (hd : DW w w1) (hl : 26 ≤ l.length) (hlc : l.length ≤ c) (hcm : c ≤ maxLen) (k : Nat) (hk : k + 4 ≤ 26) :
    Pur Tryd.prog 53 #[.slice (some ⟨g, o + k, none⟩) 4 (c - k)] w1 (.int .u64 (Wi.unbe ((l.drop k).take 4) : Nat)) :=
  big_calls (hd.rb (h.sub k 4 (c - k) (by omega) (by omega) (by omega))) (sub4_len l k)

set_option maxRecDepth 100000 in
set_option maxHeartbeats 16000000 in
theorem decodeFrame_calls {w : World} {v : Value} {l : List UInt8} (h : RB w v l) : Reads 33 #[v] w (Wi.decFr l) (Wi.decErr l) := by
  unfold Reads
  by_cases hl : l.length < 26
  · have he : Wi.decErr l = 71 := by unfold Wi.decErr; rw [if_pos hl]
    have hf : Wi.decFr l = Wi.zero := by unfold Wi.decFr; rw [he, if_neg (by decide)]
    rw [he, hf]
    have hlI : (l.length : Int) < 26 := by omega
    obtain ⟨p, c, rfl⟩ := h.form
    go_enter Tryd.func33, Tryd.ntmps33
    go_wp2_with fail
    refine bodyPost_ret (v := .tuple #[.agg (frameC Wi.zero (.slice none 0 0)), .int .i64 71]) (by simp [results, Tryd.results33, go_sem, Wi.zero]) rfl ⟨_, rfl, OB.nil_ _ _, below_alloc1 _ _⟩
  · obtain ⟨p, c, rfl⟩ := h.form
    obtain ⟨g, o, rfl, hg, -, hlc, hcm⟩ := h.addr (by intro e; subst e; simp at hl)
    have hm : maxLen = 9223372036854775807 := rfl
    have hgne : w.heap.size ≠ g := Nat.ne_of_gt hg
    have hlI : (26 : Int) ≤ (l.length : Int) := by omega
    have hcI : (26 : Int) ≤ (c : Int) := by omega
    have hcN : 26 ≤ c := by omega
    have hlen47 := h.len
    obtain ⟨b2, hb2⟩ : ∃ b, l[2]? = some b := ⟨l[2], List.getElem?_eq_getElem (by omega)⟩
    obtain ⟨b3, hb3⟩ : ∃ b, l[3]? = some b := ⟨l[3], List.getElem?_eq_getElem (by omega)⟩
    have Hk2 : Hid (Wi.kindAt l = (b2.toNat : Int)) := by show _ = _; unfold Wi.kindAt; rw [List.getD_eq_getElem?_getD, hb2]; rfl
    have Hk3 : Hid (l.getD 3 0 = b3) := by show _ = _; rw [List.getD_eq_getElem?_getD, hb3]; rfl
    have hcell2 := cell_of_rb h 2 b2 hb2
    have hcell3 := cell_of_rb h 3 b3 hb3
    have hs20 := h.sub 20 2 (c - 20) (by omega) (by omega) (by omega)
    have hs0 := h.front 2 c (by omega) (by omega) (by omega)
    have hs22 := h.sub 22 4 (c - 22) (by omega) (by omega) (by omega)
    have hq20 : ¬ c = 20 := by omega
    have hq22 : ¬ c = 22 := by omega
    have hb28 := b2.toNat_lt
    have hwk : IntKind.i64.wrap (b2.toNat : Int) = (b2.toNat : Int) := IntWalk.i64_in _ ⟨by omega, by omega⟩
    have hlen2 : Wi.lenAt l < 65536 := by
      have := Wi.unbe_lt ((l.drop 20).take 2)
      rw [List.length_take, List.length_drop, Nat.min_eq_left (by omega)] at this
      exact this
    have hwl : IntKind.i64.wrap ((Wi.lenAt l : Nat) : Int) = ((Wi.lenAt l : Nat) : Int) := IntWalk.i64_in _ ⟨by omega, by omega⟩
    have Hz : Hid (∀ x, Wi.decErr l = x → x ≠ 0 → Wi.decFr l = Wi.zero) := fun x hx h0 => by unfold Wi.decFr; rw [hx, if_neg h0]
    have hl20 : ((l.drop 20).take 2).length ≤ 8 := by rw [List.length_take]; omega
    have hl0 : (l.take 2).length ≤ 8 := by rw [List.length_take]; omega
    have hl22 : ((l.drop 22).take 4).length ≤ 8 := by rw [List.length_take]; omega
    have hdl : decide ((l.length : Int) < 26) = false := by simp; omega
    have hi2 : (2 : Int) < (l.length : Int) := by omega
    have hc22 : (22 : Int) ≤ (c : Int) := by omega
    have Hl := Lib.hid hl
    clear hb2 hb3 hl
    go_enter Tryd.func33, Tryd.ntmps33
    go_wp2_with fail
    refine wp_region_here (by kernel_rfl) (by kernel_rfl) ?_
    (repeat (first | (apply wpR_pass rfl; (try simp only [Act.put, List.setIfInBounds_toArray, List.set_cons_succ, List.set_cons_zero])) | (apply wpR_val rfl; (focus (intro w1 hR; obtain ⟨hc, hf⟩ := bcellB hR; (try go_simp); (try exact Eq.refl _); done)); (try simp only [Act.put, List.setIfInBounds_toArray, List.set_cons_succ, List.set_cons_zero])) | (apply wpR_call rfl; (focus (intro w1 hR; obtain ⟨hc, hf⟩ := bcellB hR; (try go_simp); (try exact And.intro rfl rfl); done)); (focus (intro w1 hR; first | exact ((show Pur Tryd.prog 53 #[.slice (some ⟨g, o + 20, none⟩) 2 (c - 20)] w1 (.int .u64 (Wi.lenAt l : Nat)) from big_calls ((hs20.below (below_alloc1 _ _)).below hR) hl20)).at_ (by first | omega | (simp; done) | (simp; omega)) hR)); (try simp only [Act.put, List.setIfInBounds_toArray, List.set_cons_succ, List.set_cons_zero])) | (apply wpR_val_want rfl; (focus (intro w1 hR; obtain ⟨hc, hf⟩ := bcellB hR; (try go_simp); (try exact Eq.refl _); done)); (try simp only [Act.put, List.setIfInBounds_toArray, List.set_cons_succ, List.set_cons_zero])) | (apply wpR_call_want rfl; (focus (intro w1 hR; obtain ⟨hc, hf⟩ := bcellB hR; (try go_simp); (try exact And.intro rfl rfl); done)); (focus (intro w1 hR; first | exact ((show Pur Tryd.prog 53 #[.slice (some ⟨g, o + 20, none⟩) 2 (c - 20)] w1 (.int .u64 (Wi.lenAt l : Nat)) from big_calls ((hs20.below (below_alloc1 _ _)).below hR) hl20)).at_ (by first | omega | (simp; done) | (simp; omega)) hR)); (try simp only [Act.put, List.setIfInBounds_toArray, List.set_cons_succ, List.set_cons_zero]))))
    refine wpR_nil (fun w2 hb2 => ?_)
    rw [World.size_alloc] at hb2
    have hd2 : DW w w2 := hb2
    clear hb2
    go_wp2_with fail
    refine (big_calls (hd2.rb hs0) hl0).out.mono ?_
    rintro e w3 ⟨rfl, hb3⟩
    have hd3 := hd2.step hb3
    have hcell3' := (hd3.cell hg (o + 3)).trans hcell3
    clear hd2 hb3
    cases e1 : (((Wi.unbe (l.take 2) : Nat) : Int) != 21062)
    rotate_left
    · have He := Lib.hid (show Wi.decErr l = 72 from decErr_mark Hl.out (markOk_no1 e1))
      rw [← wb_self hd3.blk]
      have hlt := hd3.lt
      go_wp2_with fail
      exact bodyPost_ret (v := .tuple #[.agg (frameC Wi.zero (.slice none 0 0)), .int .i64 72]) (by simp [results, Tryd.results33, go_sem, Wi.zero, hlt]) rfl ⟨.slice none 0 0, by rw [He.out, Hz.out _ He.out (by decide)], by rw [Hz.out _ He.out (by decide)]; exact OB.nil_ _ _, below_wb hd3.below (Nat.le_refl _)⟩
    cases e2 : ((b3.toNat : Int) != 1)
    rotate_left
    · have He := Lib.hid (show Wi.decErr l = 72 from decErr_mark Hl.out (markOk_no2 Hk3.out e2))
      rw [← wb_self hd3.blk]
      have hlt := hd3.lt
      go_wp2_with fail
      exact bodyPost_ret (v := .tuple #[.agg (frameC Wi.zero (.slice none 0 0)), .int .i64 72]) (by simp [results, Tryd.results33, go_sem, Wi.zero, hlt]) rfl ⟨.slice none 0 0, by rw [He.out, Hz.out _ He.out (by decide)], by rw [Hz.out _ He.out (by decide)]; exact OB.nil_ _ _, below_wb hd3.below (Nat.le_refl _)⟩
    have Hmk := Lib.hid (markOk_yes Hk3.out e1 e2)
    go_wp2_with fail
    refine (frameKind_calls _ (b2.toNat : Int)).out.mono ?_
    rintro e w4 ⟨rfl, hb4⟩
    have hd4 := hd3.step hb4
    clear hd3 hb4 hcell3' e1 e2
    cases e3 : Wi.kindOk (b2.toNat : Int)
    · have He := Lib.hid (show Wi.decErr l = 74 from decErr_kind Hl.out Hmk.out (by rw [Hk2.out]; exact e3))
      rw [← wb_self hd4.blk]
      have hlt := hd4.lt
      go_wp2_with fail
      exact bodyPost_ret (v := .tuple #[.agg (frameC Wi.zero (.slice none 0 0)), .int .i64 74]) (by simp [results, Tryd.results33, go_sem, Wi.zero, hlt]) rfl ⟨.slice none 0 0, by rw [He.out, Hz.out _ He.out (by decide)], by rw [Hz.out _ He.out (by decide)]; exact OB.nil_ _ _, below_wb hd4.below (Nat.le_refl _)⟩
    go_wp2_with fail
    refine (carries_calls _ (b2.toNat : Int) (Wi.lenAt l)).out.mono ?_
    rintro e w5 ⟨rfl, hb5⟩
    have hd5 := hd4.step hb5
    clear hd4 hb5
    have Hk3' : Hid (Wi.kindOk (Wi.kindAt l) = true) := by show _ = _; rw [Hk2.out]; exact e3
    clear e3
    cases e4 : Wi.carries (b2.toNat : Int) (Wi.lenAt l)
    · have He := Lib.hid (show Wi.decErr l = 75 from decErr_body Hl.out Hmk.out Hk3'.out (by rw [Hk2.out]; exact e4))
      rw [← wb_self hd5.blk]
      have hlt := hd5.lt
      go_wp2_with fail
      exact bodyPost_ret (v := .tuple #[.agg (frameC Wi.zero (.slice none 0 0)), .int .i64 75]) (by simp [results, Tryd.results33, go_sem, Wi.zero, hlt]) rfl ⟨.slice none 0 0, by rw [He.out, Hz.out _ He.out (by decide)], by rw [Hz.out _ He.out (by decide)]; exact OB.nil_ _ _, below_wb hd5.below (Nat.le_refl _)⟩
    have Hc4 : Hid (Wi.carries (Wi.kindAt l) (Wi.lenAt l) = true) := by show _ = _; rw [Hk2.out]; exact e4
    by_cases h5 : l.length < 26 + Wi.lenAt l
    · have He := Lib.hid (show Wi.decErr l = 71 from decErr_short Hl.out Hmk.out Hk3'.out Hc4.out h5)
      rw [← wb_self hd5.blk]
      have hlt := hd5.lt
      go_wp2_with fail
      exact bodyPost_ret (v := .tuple #[.agg (frameC Wi.zero (.slice none 0 0)), .int .i64 71]) (by simp [results, Tryd.results33, go_sem, Wi.zero, hlt]) rfl ⟨.slice none 0 0, by rw [He.out, Hz.out _ He.out (by decide)], by rw [Hz.out _ He.out (by decide)]; exact OB.nil_ _ _, below_wb hd5.below (Nat.le_refl _)⟩
    by_cases h6 : 26 + Wi.lenAt l < l.length
    · have He := Lib.hid (show Wi.decErr l = 76 from decErr_extra Hl.out Hmk.out Hk3'.out Hc4.out h5 h6)
      rw [← wb_self hd5.blk]
      have hlt := hd5.lt
      go_wp2_with fail
      exact bodyPost_ret (v := .tuple #[.agg (frameC Wi.zero (.slice none 0 0)), .int .i64 76]) (by simp [results, Tryd.results33, go_sem, Wi.zero, hlt]) rfl ⟨.slice none 0 0, by rw [He.out, Hz.out _ He.out (by decide)], by rw [Hz.out _ He.out (by decide)]; exact OB.nil_ _ _, below_wb hd5.below (Nat.le_refl _)⟩
    have hlenE : l.length = 26 + Wi.lenAt l := by omega
    have h5' : ¬ ((l.length : Int) < 26 + (Wi.lenAt l : Int)) := by omega
    have h6' : ¬ (26 + (Wi.lenAt l : Int) < (l.length : Int)) := by omega
    have HlenE := Lib.hid hlenE
    clear hlenE h5 h6 e4
    go_wp2_with fail
    refine (big_calls (hd5.rb hs22) hl22).out.mono ?_
    rintro e w6 ⟨rfl, hb6⟩
    have hd6 := hd5.step hb6
    clear hd5 hb6
    go_wp2_with fail
    refine (sumOf_calls (hd6.rb h) (by omega)).out.mono ?_
    rintro e w7 ⟨rfl, hb7⟩
    have hd7 := hd6.step hb7
    clear hd6 hb7
    cases e7 : (((Wi.unbe ((l.drop 22).take 4) : Nat) : Int) != ((Wi.sumBytes l : Nat) : Int))
    rotate_left
    · have He := Lib.hid (show Wi.decErr l = 73 from decErr_sum Hl.out Hmk.out Hk3'.out Hc4.out HlenE.out (fun h => (bne_iff_ne.1 e7) (by rw [h])))
      rw [← wb_self hd7.blk]
      have hlt := hd7.lt
      go_wp2_with fail
      exact bodyPost_ret (v := .tuple #[.agg (frameC Wi.zero (.slice none 0 0)), .int .i64 73]) (by simp [results, Tryd.results33, go_sem, Wi.zero, hlt]) rfl ⟨.slice none 0 0, by rw [He.out, Hz.out _ He.out (by decide)], by rw [Hz.out _ He.out (by decide)]; exact OB.nil_ _ _, below_wb hd7.below (Nat.le_refl _)⟩
    have He := Lib.hid (show Wi.decErr l = 0 from decErr_ok Hl.out Hmk.out Hk3'.out Hc4.out HlenE.out (by have h1 : ((Wi.unbe ((l.drop 22).take 4) : Nat) : Int) = ((Wi.sumBytes l : Nat) : Int) := (by simpa using e7); omega))
    have Hf : Hid (Wi.decFr l = Wi.readFr l) := by show _ = _; unfold Wi.decFr; rw [He.out, if_pos rfl]
    go_wp2_with fail
    have hw4 : IntKind.u32.wrap ((Wi.unbe ((l.drop 4).take 4) : Nat) : Int) = ((Wi.unbe ((l.drop 4).take 4) : Nat) : Int) := IntWalk.u32_in _ ⟨by omega, by have := sub4_lt l 4 (by omega); omega⟩
    have hw8 : IntKind.u32.wrap ((Wi.unbe ((l.drop 8).take 4) : Nat) : Int) = ((Wi.unbe ((l.drop 8).take 4) : Nat) : Int) := IntWalk.u32_in _ ⟨by omega, by have := sub4_lt l 8 (by omega); omega⟩
    have hw12 : IntKind.u32.wrap ((Wi.unbe ((l.drop 12).take 4) : Nat) : Int) = ((Wi.unbe ((l.drop 12).take 4) : Nat) : Int) := IntWalk.u32_in _ ⟨by omega, by have := sub4_lt l 12 (by omega); omega⟩
    have hw16 : IntKind.u32.wrap ((Wi.unbe ((l.drop 16).take 4) : Nat) : Int) = ((Wi.unbe ((l.drop 16).take 4) : Nat) : Int) := IntWalk.u32_in _ ⟨by omega, by have := sub4_lt l 16 (by omega); omega⟩
    have hq4 : ¬ c = 4 := by omega
    have hq8 : ¬ c = 8 := by omega
    have hq12 : ¬ c = 12 := by omega
    have hq16 : ¬ c = 16 := by omega
    have hc8 : (8 : Int) ≤ (c : Int) := by omega
    have hc12 : (12 : Int) ≤ (c : Int) := by omega
    have hc16 : (16 : Int) ≤ (c : Int) := by omega
    have hc20 : (20 : Int) ≤ (c : Int) := by omega
    have hl26 : 26 ≤ l.length := by omega
    clear e7
    refine Fl.wp_region_float (B := w.heap.size + 1) (W := w.alloc (.cells zeroFC 50)) 18 (by kernel_rfl) (by kernel_rfl) rfl rfl (fun a w => alloc_frame a w _ rfl) (by simp) (Below.drew hd7) ?_
    (repeat (first | (apply Fl.wpR_val rfl; (focus (intro w1 hR; obtain ⟨hc, hf⟩ := bcellB hR; (try go_simp); (try exact Eq.refl _); done)); (try simp only [Act.put, List.setIfInBounds_toArray, List.set_cons_succ, List.set_cons_zero])) | (apply Fl.wpR_call rfl; (focus (intro w1 hR; obtain ⟨hc, hf⟩ := bcellB hR; (try go_simp); (try exact And.intro rfl rfl); done)); exact (by first | omega | (simp; done) | (simp; omega)); (focus (intro w1 hR; first | exact (big_sub h (show DW w w1 from hR) hl26 hlc hcm _ (by decide)).out)); (try simp only [Act.put, List.setIfInBounds_toArray, List.set_cons_succ, List.set_cons_zero]))))
    refine Fl.wpR_nil (fun b0 w8 hd8 hB8 hlt8 => ?_)
    replace hd8 : DW w w8 := hd8
    have hlt2 := hd8.lt
    have hn02 : b0 ≠ w.heap.size := Nat.ne_of_gt hB8
    have hn20 := Ne.symm hn02
    have hng0 : b0 ≠ g := fun e => by omega
    have hzE := Nat.ne_of_lt hlt2
    rw [← wb_self hd8.blk]
    have HRf : Hid (Wi.readFr l = ⟨(b2.toNat : Int), Wi.unbe ((l.drop 4).take 4), Wi.unbe ((l.drop 8).take 4), Wi.unbe ((l.drop 12).take 4), Wi.unbe ((l.drop 16).take 4), l.drop 26⟩) := by
      show _ = _; unfold Wi.readFr; rw [Hk2.out]
    have hX : ∀ (cs : Array Value), RB ((w8.wb w.heap.size zeroFC 50).wb b0 cs 50) (.slice (some ⟨g, o, none⟩) l.length c) l := fun cs =>
      ((hd8.rb h).wb (fun _ e => hgne (by cases e; rfl)) _ _).wb (fun _ e => hng0 (by cases e; rfl)) _ _
    have hdb := hd8.below
    have Hd8 := Lib.hid hd8
    clear hd7 hd8 hcell2 hcell3 hs20 hs0 hs22 hw4 hw8 hw12 hw16 hwk hwl
    by_cases h0 : 0 < Wi.lenAt l
    · have h0I : (0 : Int) < (Wi.lenAt l : Int) := by omega
      have hc26 : ¬ c = 26 := by have := HlenE.out; omega
      go_wp2_with fail
      refine (clone_calls ((hX _).back 26 (c - 26) hl26 (by omega) (by omega))).mono ?_
      rintro e w9 ⟨v1, rfl, ho9, hb9⟩
      obtain ⟨p1, c1, rfl⟩ := ho9.rb.form
      obtain ⟨w10, rfl, hb10, hz10, hl10a, hl10b⟩ := behind_wb2 (B := w.heap.size) hb9 hlt2 hlt8 (Nat.le_refl _) (Nat.le_of_succ_le hB8) hn02
      rw [size_wb, size_wb] at ho9
      have Ho9 := Lib.hid ho9
      clear hX ho9 hb9
      go_wp2_with fail
      refine bodyPost_ret (v := .tuple #[.agg (frameC (Wi.readFr l) (.slice p1 (l.drop 26).length c1)), .int .i64 0]) ?_ rfl ⟨.slice p1 (l.drop 26).length c1, by rw [He.out, Hf.out], ?_, below_wb (below_wb (hdb.trans hb10) (Nat.le_refl _)) (Nat.le_of_succ_le hB8)⟩
      · rw [HRf.out]
        exact (by simp [results, Tryd.results33, go_sem, hl10a, hl10b, hn02, hn20])
      · rw [Hf.out]
        refine (Ho9.out.at_ fun g' e => ?_).more (Nat.le_of_lt hlt2)
        have hg' := (Ho9.out.lt g' e).1
        rw [heap_wb_ne (by omega), heap_wb_ne (by omega), heap_wb_ne (by omega), heap_wb_ne (by omega)]
    · have h0I : ¬ (0 : Int) < (Wi.lenAt l : Int) := by omega
      have hl26 : l.drop 26 = [] := List.drop_of_length_le (by have := HlenE.out; omega)
      have Hl26 := Lib.hid hl26
      clear hl26
      go_wp2_with fail
      refine bodyPost_ret (v := .tuple #[.agg (frameC (Wi.readFr l) (.slice none 0 0)), .int .i64 0]) ?_ rfl ⟨.slice none 0 0, by rw [He.out, Hf.out], by rw [Hf.out, HRf.out]; rw [Hl26.out]; exact OB.nil_ _ _, below_wb (below_wb hdb (Nat.le_refl _)) (Nat.le_of_succ_le hB8)⟩
      rw [HRf.out]
      exact (by simp [results, Tryd.results33, go_sem, hlt2, hlt8, hn02, hn20])
end Go.Proofs.YtbgfoobcpacfeaaDoor

/- The bytes of a frame: the program's EncodeFrame. -/
namespace Go.Proofs.YtbgfoobcpacfeaaDoor
open Go.RowKit
set_option maxRecDepth 100000
set_option linter.unusedVariables false
set_option linter.unusedSimpArgs false

theorem put_mk {B : Nat} {W w : World} {v : Value} {l : List UInt8} (n x : Nat) (h : Mk B W w v l) (hn : n ≤ 8) (hx : x < 18446744073709551616) (hl : l.length + n ≤ 140737488355328) :
    Calls Tryd.prog 51 #[v, .int .i64 n, .int .u64 x] w fun e w' => ∃ v', e = .returned v' ∧ Mk B W w' v' (l ++ Wi.be n x) :=
  (put_calls n x h.own h.size hn hx hl).mono fun e w' ⟨v', he, ho, ha⟩ => ⟨v', he, h.grown ha.grown ho⟩
theorem refPut_mk {B : Nat} {W w : World} {v : Value} {l : List UInt8} (n x : Nat) (h : Mk B W w v l) (hn : n ≤ 8) (hx : x < 18446744073709551616) (hl : l.length + n ≤ 140737488355328) :
    Calls Tryd.prog 45 #[v, .int .u64 x, .int .i64 n] w fun e w' => ∃ v', e = .returned v' ∧ Mk B W w' v' (l ++ Wi.be n x) :=
  (refPut_calls n x h.own h.size hn hx hl).mono fun e w' ⟨v', he, ho, ha⟩ => ⟨v', he, h.grown ha.grown ho⟩

/-- A number in bytes of its own, beside the row. -/
theorem put_beside {B : Nat} {W w : World} {v : Value} {l : List UInt8} (n x : Nat) (h : Mk B W w v l) (hn : n ≤ 8) (hx : x < 18446744073709551616) :
    Calls Tryd.prog 51 #[.slice none 0 0, .int .i64 n, .int .u64 x] w fun e w' => ∃ u, e = .returned u ∧ Mk B W w' v l ∧ RB w' u (Wi.be n x) :=
  (put_calls n x (OB.nil_ w.heap.size w) (Nat.le_refl _) hn hx (by simp; omega)).mono fun e w' ⟨v', he, ho, ha⟩ =>
    ⟨v', he, h.behind (ha.belowB (fun k hk => by cases hk) (Nat.le_refl _)), by simpa using ho.rb⟩


set_option maxRecDepth 100000 in
set_option maxHeartbeats 4000000 in
theorem encodeFrame_kind {w : World} {v : Value} (x : Wi.Fr) (h : RB w v x.pay) (hk : Wi.kindOk x.kind = false) :
    Calls Tryd.prog 31 #[.agg (frameC x v)] w fun e w' => e = .returned (.tuple #[.slice none 0 0, .int .i64 74]) ∧ Below w.heap.size w w' := by
  go_enter Tryd.func31, Tryd.ntmps31
  go_wp2_with fail
  refine (frameKind_calls _ x.kind).out.mono ?_
  rintro e w1 ⟨rfl, hb1⟩
  go_wp2_with fail
  go_ret2
  exact ⟨rfl, (below_alloc1 w _).trans (hb1.mono (by simp))⟩

set_option maxRecDepth 100000 in
set_option maxHeartbeats 4000000 in
theorem encodeFrame_body {w : World} {v : Value} (x : Wi.Fr) (h : RB w v x.pay) (hk : Wi.kindOk x.kind = true) (hc : Wi.carries x.kind x.pay.length = false) :
    Calls Tryd.prog 31 #[.agg (frameC x v)] w fun e w' => e = .returned (.tuple #[.slice none 0 0, .int .i64 75]) ∧ Below w.heap.size w w' := by
  obtain ⟨p, c, rfl, h1, h2, h3, hr⟩ := h
  go_enter Tryd.func31, Tryd.ntmps31
  go_wp2_with fail
  refine (frameKind_calls _ x.kind).out.mono ?_
  rintro e w1 ⟨rfl, hb1⟩
  obtain ⟨hc1, hf1⟩ := bcell hb1
  go_wp2_with fail
  refine (carries_calls _ x.kind x.pay.length).out.mono ?_
  rintro e w2 ⟨rfl, hb2⟩
  go_wp2_with fail
  go_ret2
  exact ⟨rfl, ((below_alloc1 w _).trans (hb1.mono (by simp))).trans (hb2.mono (by have := hb1.size; simp at this; omega))⟩

theorem lit2 (k : Int) : #[Value.int .u8 (k % 256), .int .u8 1] = ([Wi.kindByte k, 1].map bv).toArray := by
  have h : ((k % 256).toNat : Int) = k % 256 := Int.toNat_of_nonneg (by omega)
  show _ = #[bv _, bv 1]
  unfold Wi.kindByte
  rw [bv_of, h, show k % 256 % 256 = k % 256 by omega]
  rfl

set_option maxRecDepth 100000 in
set_option maxHeartbeats 8000000 in
theorem encodeFrame_good {w : World} {v : Value} (x : Wi.Fr) (h : RB w v x.pay) (hx : x.Ok) (hk : Wi.kindOk x.kind = true) (hc : Wi.carries x.kind x.pay.length = true) :
    Calls Tryd.prog 31 #[.agg (frameC x v)] w fun e w' => ∃ v', e = .returned (.tuple #[v', .int .i64 0]) ∧ OB w.heap.size w' v' (Wi.enc x) ∧ Below w.heap.size w w' := by
  have hn2 : x.pay.length ≤ 2048 := by
    simp only [Wi.carries, Bool.and_eq_true, decide_eq_true_eq] at hc
    exact hc.2
  obtain ⟨p, c, rfl, h1, h2, h3, hr⟩ := h
  have hB0 : w.heap.size + 1 ≤ (w.alloc (.cells (frameC x (.slice p x.pay.length c)) 50)).heap.size := by simp
  have hrW : RB (w.alloc (.cells (frameC x (.slice p x.pay.length c)) 50)) (.slice p x.pay.length c) x.pay := RB.below ⟨p, c, rfl, h1, h2, h3, hr⟩ (below_alloc1 w _)
  have hvW : x.pay ≠ [] → ∀ g, (Value.slice p x.pay.length c).ownBlock = some g → g < w.heap.size + 1 := fun hl g e => Nat.lt_succ_of_lt (RB.block ⟨p, c, rfl, h1, h2, h3, hr⟩ hl g e)
  go_enter Tryd.func31, Tryd.ntmps31
  go_wp2_with fail
  refine (frameKind_calls _ x.kind).out.mono ?_
  rintro e w1 ⟨rfl, hb1⟩
  rw [World.size_alloc] at hb1
  obtain ⟨hc1, hf1⟩ := bcellB hb1
  go_wp2_with fail
  refine (carries_calls _ x.kind x.pay.length).out.mono ?_
  rintro e w2 ⟨rfl, hb2⟩
  replace hb2 := hb1.trans (hb2.mono (by have := hb1.size; simpa using this))
  clear hb1 hc1 hf1
  obtain ⟨hc2, hf2⟩ := bcellB hb2
  go_wp2_with fail
  refine (put_mk 2 21062 (Mk.nil_ hB0 hb2) (by decide) (by decide) (by decide)).mono ?_
  rintro e w3 ⟨v1, rfl, hm1⟩
  clear hc2 hf2 hb2
  obtain ⟨hc3, hf3⟩ := bcellB hm1.below
  have Hl := Lib.hid (lit2 x.kind)
  go_wp2_with (first
    | (at_builtin
       refine wpList_append_Mk v1 _ (.tmp 19) (.tmp 23) rfl rfl rfl rfl rfl (hm1.alloc _) (RB.lit _ _ [Wi.kindByte x.kind, 1] 2 Hl.out rfl (by simp)) (by simp [Wi.be_length]) ?_
       intro v2 w4 hm2
       obtain ⟨hc4, hf4⟩ := bcellB hm2.below)
    | fail)
  have h4 := heap_new w4 (.cells #[.int .u32 x.from_, .int .u32 x.to, .int .u32 x.seq, .int .u32 x.ack] 27) w4.heap.size rfl
  have hm2' := hm2.alloc (.cells #[.int .u32 x.from_, .int .u32 x.to, .int .u32 x.seq, .int .u32 x.ack] 27)
  have hne2 : v2.ownBlock ≠ some w4.heap.size := fun e => Nat.lt_irrefl _ (hm2.own.lt _ e).2
  have hfs : ∀ q ∈ [x.from_, x.to, x.seq, x.ack], q < 4294967296 := by
    obtain ⟨a1, a2, a3, a4⟩ := hx
    intro q hq
    simp only [List.mem_cons, List.not_mem_nil, or_false] at hq
    rcases hq with rfl | rfl | rfl | rfl <;> assumption
  have hcs : ∀ (i q : Nat), [x.from_, x.to, x.seq, x.ack][i]? = some q → (#[Value.int .u32 x.from_, .int .u32 x.to, .int .u32 x.seq, .int .u32 x.ack] : Array Value)[i]? = some (.int .u32 q) := by
    intro i q h
    match i, h with
    | 0, h => cases h; rfl
    | 1, h => cases h; rfl
    | 2, h => cases h; rfl
    | 3, h => cases h; rfl
  have hF : ([x.from_, x.to, x.seq, x.ack] : List Nat).length = 4 := rfl
  have HF : Hid (Wi.head x = [] ++ Wi.be 2 21062 ++ [Wi.kindByte x.kind, 1] ++ [x.from_, x.to, x.seq, x.ack].flatMap (Wi.be 4) ++ Wi.be 2 x.pay.length) := by
    show _ = _
    simp [Wi.head, Wi.be]
  generalize [x.from_, x.to, x.seq, x.ack] = fs at *
  generalize (#[Value.int .u32 x.from_, .int .u32 x.to, .int .u32 x.seq, .int .u32 x.ack] : Array Value) = cs at *
  generalize w4.heap.size = g4 at *
  generalize w4.alloc (.cells cs 27) = w5 at *
  clear hc4 hf4 hm2 hc3 hf3 hm1
  generalize ehd : [] ++ Wi.be 2 21062 ++ [Wi.kindByte x.kind, 1] = hd at *
  have Hhd := Lib.hid ehd
  clear ehd
  have hhd : hd.length = 4 := by rw [← Hhd.out]; rfl
  refine wp_loop_count (fun i a w' => ∃ v', (∃ U : Nat → Value, a = ⟨#[.agg (frameC x (.slice p x.pay.length c)), .pointer (some ⟨w.heap.size, 0, none⟩), .slice none 0 0, .int .i64 0, v', U 5, U 6, U 7, U 8, U 9, U 10, U 11, U 12, U 13, U 14, U 15, U 16, U 17, U 18, U 19, U 20, U 21, U 22, U 23, U 24, U 25, U 26, U 27, U 28, U 29, U 30, U 31, U 32, .slice (some ⟨g4, 0, none⟩) 4 4, .int .i64 4, .int .i64 i, U 36, U 37, U 38, U 39, U 40, U 41, U 42, U 43, U 44, U 45, U 46, U 47, U 48, U 49, U 50, U 51, U 52, U 53, U 54, U 55, U 56, U 57, U 58, U 59, U 60, U 61, U 62], []⟩) ∧ Mk (w.heap.size + 1) (w.alloc (.cells (frameC x (.slice p x.pay.length c)) 50)) w' v' (hd ++ (fs.take i).flatMap (Wi.be 4)) ∧ w'.heap[g4]? = some (.cells cs 27 (0, 0)) ∧ v'.ownBlock ≠ some g4) 4 ⟨v2, exU (fun U => ⟨#[.agg (frameC x (.slice p x.pay.length c)), .pointer (some ⟨w.heap.size, 0, none⟩), .slice none 0 0, .int .i64 0, v2, U 5, U 6, U 7, U 8, U 9, U 10, U 11, U 12, U 13, U 14, U 15, U 16, U 17, U 18, U 19, U 20, U 21, U 22, U 23, U 24, U 25, U 26, U 27, U 28, U 29, U 30, U 31, U 32, .slice (some ⟨g4, 0, none⟩) 4 4, .int .i64 4, .int .i64 0, U 36, U 37, U 38, U 39, U 40, U 41, U 42, U 43, U 44, U 45, U 46, U 47, U 48, U 49, U 50, U 51, U 52, U 53, U 54, U 55, U 56, U 57, U 58, U 59, U 60, U 61, U 62], []⟩) rfl, by simpa using hm2', h4, hne2⟩ ?_ ?_
  · rintro i a w' hi ⟨v', ⟨U, rfl⟩, hm, hb4, hne⟩
    obtain ⟨q, hq⟩ : ∃ q, fs[i]? = some q := ⟨fs[i], List.getElem?_eq_getElem (by omega)⟩
    have hq32 := hfs q (List.mem_of_getElem? hq)
    have hcell : w'.cell? ⟨g4, i, none⟩ = some (.int .u32 q) := (has_cell hb4 i).trans (hcs i q hq)
    have hi' : (i : Int) < 4 := by exact_mod_cast hi
    have hi0 : (0 : Int) ≤ (i : Int) := Int.natCast_nonneg i
    have Hn := Lib.hid (Wi.take_next hq)
    have hfl : ((fs.take i).flatMap (Wi.be 4)).length ≤ 16 := by
      rw [Wi.flat_length, List.length_take]; omega
    clear hfs hcs hq
    go_wp2_with fail
    refine (put_calls 4 q hm.own hm.size (by decide) (by omega) (by rw [List.length_append]; omega)).mono ?_
    rintro e w6 ⟨v6, rfl, ho6, ha6⟩
    go_wp2_with fail
    refine ⟨v6, exU (fun U => ⟨#[.agg (frameC x (.slice p x.pay.length c)), .pointer (some ⟨w.heap.size, 0, none⟩), .slice none 0 0, .int .i64 0, v6, U 5, U 6, U 7, U 8, U 9, U 10, U 11, U 12, U 13, U 14, U 15, U 16, U 17, U 18, U 19, U 20, U 21, U 22, U 23, U 24, U 25, U 26, U 27, U 28, U 29, U 30, U 31, U 32, .slice (some ⟨g4, 0, none⟩) 4 4, .int .i64 4, .int .i64 (i + 1 : Nat), U 36, U 37, U 38, U 39, U 40, U 41, U 42, U 43, U 44, U 45, U 46, U 47, U 48, U 49, U 50, U 51, U 52, U 53, U 54, U 55, U 56, U 57, U 58, U 59, U 60, U 61, U 62], []⟩) rfl, ?_, ?_, ?_⟩
    · rw [Hn.out, List.flatMap_append, ← List.append_assoc]
      simpa using hm.grown ha6.grown ho6
    · exact (ha6.grown.block _ (heap_lt hb4) (fun e => hne e.symm)).trans hb4
    · rcases ha6.at_ with e | ⟨g, e, hg⟩
      · rw [e]; exact hne
      · rw [e]; intro e'; injection e' with e'; have := heap_lt hb4; omega
  · rintro a w' ⟨v', ⟨U, rfl⟩, hm, hb4, hne⟩
    obtain ⟨hc5, hf5⟩ := bcellB hm.below
    rw [List.take_of_length_le (by omega)] at hm
    clear hfs hcs h4 hm2' hne2 hb4 hne
    have hfl : (fs.flatMap (Wi.be 4)).length = 16 := by
      rw [Wi.flat_length]; omega
    go_wp2_with fail
    refine (put_mk 2 x.pay.length hm (by decide) (by omega) (by rw [List.length_append]; omega)).mono ?_
    rintro e w7 ⟨v7, rfl, hm7⟩
    rw [← HF.out] at hm7
    clear hc5 hf5
    go_wp2_with fail
    refine Ph.wp_region_P (RMa (w.heap.size + 1) (w.alloc (.cells (frameC x (.slice p x.pay.length c)) 50)) v7 (Wi.head x) (Wi.head x ++ Wi.be 4 0)) (fun i => i == 1) 4 [0, 2, 3, 1] (by kernel_rfl) (by kernel_rfl) (hm7.behind (Below.drew (Below.refl _ _))) ?_
    (repeat (first | (refine Ph.wpP_pass rfl rfl rfl ?_; (try simp only [List.getElem_toArray, List.getElem_cons_succ, List.getElem_cons_zero, Act.put, List.setIfInBounds_toArray, List.set_cons_succ, List.set_cons_zero])) | (apply Ph.wpP_val rfl rfl rfl; (focus (intro t w1 hR; have hc := bcellB (RMa.below hR); (try simp only [List.getElem_toArray, List.getElem_cons_succ, List.getElem_cons_zero]); (try go_simp); (try exact Eq.refl _); done)); (try simp only [List.getElem_toArray, List.getElem_cons_succ, List.getElem_cons_zero, Act.put, List.setIfInBounds_toArray, List.set_cons_succ, List.set_cons_zero])) | (apply Ph.wpP_call RMa.mono rfl rfl rfl; (focus (intro t w1 hR; have hc := bcellB (RMa.below hR); (try simp only [List.getElem_toArray, List.getElem_cons_succ, List.getElem_cons_zero]); (try go_simp); (try exact And.intro rfl rfl); done)); (focus (intro t w1 hR; first | fail)); (try simp only [List.getElem_toArray, List.getElem_cons_succ, List.getElem_cons_zero, Act.put, List.setIfInBounds_toArray, List.set_cons_succ, List.set_cons_zero])) | (apply Ph.wpP_val_want rfl rfl rfl; (focus (intro t w1 hR; have hc := bcellB (RMa.below hR); (try simp only [List.getElem_toArray, List.getElem_cons_succ, List.getElem_cons_zero]); (try go_simp); (try exact Eq.refl _); done)); (try simp only [List.getElem_toArray, List.getElem_cons_succ, List.getElem_cons_zero, Act.put, List.setIfInBounds_toArray, List.set_cons_succ, List.set_cons_zero])) | (apply Ph.wpP_call_want RMa.mono rfl rfl rfl; (focus (intro t w1 hR; have hc := bcellB (RMa.below hR); (try simp only [List.getElem_toArray, List.getElem_cons_succ, List.getElem_cons_zero]); (try go_simp); (try exact And.intro rfl rfl); done)); (focus (intro t w1 hR; first | fail)); (try simp only [List.getElem_toArray, List.getElem_cons_succ, List.getElem_cons_zero, Act.put, List.setIfInBounds_toArray, List.set_cons_succ, List.set_cons_zero]))))
    have hhl := Wi.head_length x
    (apply Ph.wpP_write_call rfl rfl rfl; (focus (intro w1 hR; have hc := bcellB (RMa.below hR); (try simp only [List.getElem_toArray, List.getElem_cons_succ, List.getElem_cons_zero]); (try go_simp); (try exact And.intro rfl rfl); done)); (focus (intro w1 hR; exact put_mk 4 0 hR (by decide) (by decide) (by omega))))
    rintro v8 w8 -
    (try simp only [List.getElem_toArray, List.getElem_cons_succ, List.getElem_cons_zero, Act.put, List.setIfInBounds_toArray, List.set_cons_succ, List.set_cons_zero])
    refine Ph.wpP_nil ?_
    intro w9 hm9
    have hm9 : Mk (w.heap.size + 1) (w.alloc (.cells (frameC x (.slice p x.pay.length c)) 50)) w9 v8 (Wi.head x ++ Wi.be 4 0) := hm9
    have hpay : RB w9 (.slice p x.pay.length c) x.pay := hm9.keep hrW hvW
    have hlen9 : (Wi.head x ++ Wi.be 4 0).length + x.pay.length ≤ 140737488355328 := by rw [List.length_append, Wi.be_length, hhl]; omega
    clear hhl
    simp only [List.drop_succ_cons, List.drop_zero]
    refine wpList_append_Mk v8 _ (.tmp 51) (.tmp 53) rfl rfl rfl rfl rfl hm9 hpay hlen9 ?_
    intro v10 w10 hm10
    obtain ⟨hc10, hf10⟩ := bcellB hm10.below
    go_wp2_with fail
    have hm11 : Mk (w.heap.size + 1) (w.alloc (.cells (frameC x (.slice p x.pay.length c)) 50)) w10 v10 (Wi.framed x 0) := hm10
    clear hm10 hc10 hf10
    obtain ⟨g10, cap10, rfl, -, -, hcap, hcm, -, -⟩ := hm11.own.form (by intro e; have := Wi.framed_length x 0; rw [e] at this; simp at this; omega)
    have hfl0 := Wi.framed_length x 0
    have hmx : maxLen = 9223372036854775807 := rfl
    rw [hmx] at hcm
    generalize (Wi.framed x 0).length = L10 at *
    have hcrc := Wi.crcMore_lt 0 (Wi.framed x 0)
    have Hfl0 := Lib.hid hfl0
    have hL26 : 26 ≤ L10 := by omega
    have hL22 : (22 : Int) ≤ (L10 : Int) := by omega
    have hne22 : ¬ (cap10 = 22) := by omega
    clear hfl0
    have hwr : IntKind.u64.wrap ((Wi.crcMore 0 (Wi.framed x 0) : Nat) : Int) = ((Wi.crcMore 0 (Wi.framed x 0) : Nat) : Int) := by
      simp only [IntKind.wrap, IntKind.bits, IntKind.signed]; simp; omega
    have Henc : Hid (Wi.enc x = Wi.framed x (Wi.crcMore 0 (Wi.framed x 0))) := rfl
    refine Ph.wp_region_P (RMb (w.heap.size + 1) (w.alloc (.cells (frameC x (.slice p x.pay.length c)) 50)) (.slice (some ⟨g10, 0, none⟩) L10 cap10) (Wi.framed x 0) (Wi.be 4 (Wi.crcMore 0 (Wi.framed x 0)))) (fun i => i == 5) 6 [0, 1, 2, 3, 4, 5] (by kernel_rfl) (by kernel_rfl) (hm11.behind (Below.drew (Below.refl _ _))) ?_
    (repeat (first | (refine Ph.wpP_pass rfl rfl rfl ?_; (try simp only [List.getElem_toArray, List.getElem_cons_succ, List.getElem_cons_zero, Act.put, List.setIfInBounds_toArray, List.set_cons_succ, List.set_cons_zero])) | (apply Ph.wpP_val rfl rfl rfl; (focus (intro t w1 hR; have hc := bcellB (RMb.below hR); (try simp only [List.getElem_toArray, List.getElem_cons_succ, List.getElem_cons_zero]); (try go_simp); (try exact Eq.refl _); done)); (try simp only [List.getElem_toArray, List.getElem_cons_succ, List.getElem_cons_zero, Act.put, List.setIfInBounds_toArray, List.set_cons_succ, List.set_cons_zero])) | (apply Ph.wpP_call RMb.mono rfl rfl rfl; (focus (intro t w1 hR; have hc := bcellB (RMb.below hR); (try simp only [List.getElem_toArray, List.getElem_cons_succ, List.getElem_cons_zero]); (try go_simp); (try exact And.intro rfl rfl); done)); (focus (intro t w1 hR; first | exact crc_calls (RMb.row hR).rb)); (try simp only [List.getElem_toArray, List.getElem_cons_succ, List.getElem_cons_zero, Act.put, List.setIfInBounds_toArray, List.set_cons_succ, List.set_cons_zero])) | (apply Ph.wpP_val_want rfl rfl rfl; (focus (intro t w1 hR; have hc := bcellB (RMb.below hR); (try simp only [List.getElem_toArray, List.getElem_cons_succ, List.getElem_cons_zero]); (try go_simp); (try exact Eq.refl _); done)); (try simp only [List.getElem_toArray, List.getElem_cons_succ, List.getElem_cons_zero, Act.put, List.setIfInBounds_toArray, List.set_cons_succ, List.set_cons_zero])) | (apply Ph.wpP_call_want RMb.mono rfl rfl rfl; (focus (intro t w1 hR; have hc := bcellB (RMb.below hR); (try simp only [List.getElem_toArray, List.getElem_cons_succ, List.getElem_cons_zero]); (try go_simp); (try exact And.intro rfl rfl); done)); (focus (intro t w1 hR; first | exact crc_calls (RMb.row hR).rb)); (try simp only [List.getElem_toArray, List.getElem_cons_succ, List.getElem_cons_zero, Act.put, List.setIfInBounds_toArray, List.set_cons_succ, List.set_cons_zero]))))
    generalize Wi.crcMore 0 (Wi.framed x 0) = sm at *
    have hb4 := Wi.be_length 4 sm
    have hsm64 : sm < 18446744073709551616 := by omega
    (apply Ph.wpP_write_call rfl rfl rfl; (focus (intro w1 hR; have hc := bcellB (RMb.below hR); (try simp only [List.getElem_toArray, List.getElem_cons_succ, List.getElem_cons_zero]); (try go_simp); (try exact And.intro rfl rfl); done)); (focus (intro w1 hR; exact put_beside 4 sm hR (by decide) hsm64)))
    rintro v12 w12 -
    (try simp only [List.getElem_toArray, List.getElem_cons_succ, List.getElem_cons_zero, Act.put, List.setIfInBounds_toArray, List.set_cons_succ, List.set_cons_zero])
    refine Ph.wpP_nil ?_
    intro w13 hm13
    have hm13 : Mk (w.heap.size + 1) (w.alloc (.cells (frameC x (.slice p x.pay.length c)) 50)) w13 (.slice (some ⟨g10, 0, none⟩) L10 cap10) (Wi.framed x 0) ∧ RB w13 v12 (Wi.be 4 sm) := hm13
    simp only [List.drop_succ_cons, List.drop_zero]
    refine wpList_copy_Mk g10 L10 cap10 22 _ (.tmp 56) (.tmp 60) rfl rfl rfl rfl rfl hm13.1 hm13.2 (by rw [Wi.framed_length, hb4]; omega) (by rw [hb4]; omega) ?_
    intro w14 hm14
    rw [Wi.framed_laid] at hm14
    clear hm13
    go_wp2_with fail
    go_ret2
    rw [Henc.out]
    refine ⟨_, rfl, hm14.own.more (by omega), ?_⟩
    exact (below_alloc1 w _).trans (hm14.below.mono (by omega))
end Go.Proofs.YtbgfoobcpacfeaaDoor

/- The statements' own functions: the tail of a region that reads a packet; frames. -/
namespace Go.Proofs.YtbgfoobcpacfeaaDoor
open Go.RowKit
set_option maxRecDepth 100000
set_option linter.unusedVariables false
set_option linter.unusedSimpArgs false

theorem exec_extract {P : Program} {ρ : Operand → Value} {o : Oper} {x : Operand} {i : Nat} {vs : Array Value} {v : Value} (ho : o.op = .extract x i) (hx : ρ x = .tuple vs) (hv : vs[i]? = some v) (w : World) : (execOp ρ o).run P w = .ok (.value v) w := by
  unfold execOp
  rw [ho]
  simp [hx, Instr.extract, hv]
theorem exec_move {P : Program} {ρ : Operand → Value} {o : Oper} {x : Operand} (ho : o.op = .move x) (w : World) : (execOp ρ o).run P w = .ok (.value (ρ x)) w := by
  unfold execOp
  rw [ho]
  rfl
theorem exec_assign {P : Program} {ρ : Operand → Value} {o : Oper} {x : Operand} (ho : o.op = .assign x) (w : World) : (execOp ρ o).run P w = .ok (.value (ρ x)) w := by
  unfold execOp
  rw [ho]
  rfl
theorem upd_at (φ : Nat → Value) (d : Nat) (v : Value) : Og.upd φ d v d = v := by simp [Og.upd]
theorem dec_enter : Og.Enters Tryd.prog 26 := fun args w => by kernel_rfl

section
variable {ops rest : Array Oper} {Q : Exit → Act → World → Prop} {n : Nat} {φ : Nat → Value} {w : World} {a : Act}
/-- The operations that read a packet: call, move, three parts, a place for the packet, two moves. -/
theorem st_dec {o1 o2 o3 o4 o5 o6 o7 o8 o9 : Oper} {l : List UInt8} {v : Value} (s d1 dm e0 e1 e2 da x1 x2 : Nat) (hF : Og.Fr n a φ) (hr : RB w v l) (hS : Szs w) (hs : φ s = v)
    (k : ∀ a' w' b pv T, Og.Fr n a' (Og.upd (Og.upd (Og.upd (Og.upd (Og.upd (Og.upd (Og.upd (Og.upd φ d1 T) dm T) e0 (.agg (pkL (Wi.unpack l).1 pv).toArray)) e1 (.int .i64 ((Wi.unpack l).2.1 : Nat))) e2 (.int .i64 (Wi.unpack l).2.2)) da (.pointer (some ⟨b, 0, none⟩))) x1 (.int .i64 ((Wi.unpack l).2.1 : Nat))) x2 (.int .i64 (Wi.unpack l).2.2)) →
      PkAt w' b (Wi.unpack l).1 pv → OB w.heap.size w' pv (Wi.unpack l).1.data → Below w.heap.size w w' → w.heap.size ≤ b → Wi.Pk.Ok (Wi.unpack l).1 → Q .normal a' w')
    (hok : Wi.Pk.Ok (Wi.unpack l).1)
    (h1 : o1.op = .call { callee := .value (.func 26), args := #[.tmp s], argTypes := #[32] } := by rfl) (h2 : o2.op = .move (.tmp d1) := by rfl) (h3 : o3.op = .extract (.tmp dm) 0 := by rfl) (h4 : o4.op = .extract (.tmp dm) 1 := by rfl) (h5 : o5.op = .extract (.tmp dm) 2 := by rfl)
    (h6 : o6.op = .alloc 34 := by rfl) (h7 : o7.op = .store 34 (.tmp da) (.tmp e0) := by rfl) (h8 : o8.op = .assign (.tmp e1) := by rfl) (h9 : o9.op = .assign (.tmp e2) := by rfl)
    (g1 : o1.guard = none := by rfl) (g2 : o2.guard = none := by rfl) (g3 : o3.guard = none := by rfl) (g4 : o4.guard = none := by rfl) (g5 : o5.guard = none := by rfl) (g6 : o6.guard = none := by rfl) (g7 : o7.guard = none := by rfl) (g8 : o8.guard = none := by rfl) (g9 : o9.guard = none := by rfl)
    (t1 : o1.dst = some d1 := by rfl) (t2 : o2.dst = some dm := by rfl) (t3 : o3.dst = some e0 := by rfl) (t4 : o4.dst = some e1 := by rfl) (t5 : o5.dst = some e2 := by rfl) (t6 : o6.dst = some da := by rfl) (t7 : o7.dst = none := by rfl) (t8 : o8.dst = some x1 := by rfl) (t9 : o9.dst = some x2 := by rfl)
    (hn : d1 < n ∧ dm < n ∧ e0 < n ∧ e1 < n ∧ e2 < n ∧ da < n ∧ x1 < n ∧ x2 < n := by decide)
    (hd : (e0 ≠ dm ∧ e1 ≠ dm ∧ e1 ≠ e0 ∧ e2 ≠ e1 ∧ da ≠ e0 ∧ e2 ≠ e0 ∧ da ≠ e1 ∧ da ≠ e2 ∧ x1 ≠ e2) := by decide) :
    wpList Tryd.prog ops Q [o1, o2, o3, o4, o5, o6, o7, o8, o9] a w := by
  obtain ⟨n1, n2, n3, n4, n5, n6, n7, n8⟩ := hn
  obtain ⟨c1, c2, c3, c4, c5, c6, c7, c8, c9⟩ := hd
  refine Og.st_call (f := 26) (args := #[v]) hF g1 t1 n1 (by rw [Og.exec_call h1 dec_enter rfl]; simp [Og.ev, hs]) ((decP_calls hr hS).mono ?_)
  rintro e w1 ⟨pv, rfl, ho, hb⟩
  refine ⟨_, rfl, fun a hF => ?_⟩
  generalize hT : (Value.tuple #[.agg (pkL (Wi.unpack l).1 pv).toArray, .int .i64 ((Wi.unpack l).2.1 : Nat), .int .i64 (Wi.unpack l).2.2]) = T at hF
  refine Og.st_same T hF g2 t2 n2 (by rw [exec_move h2]; simp [Og.ev, Og.upd]) fun a hF => ?_
  refine Og.st_same (.agg (pkL (Wi.unpack l).1 pv).toArray) hF g3 t3 n3 (exec_extract h3 (by simp [Og.ev, Og.upd]; exact hT.symm) rfl w1) fun a hF => ?_
  refine Og.st_same (.int .i64 ((Wi.unpack l).2.1 : Nat)) hF g4 t4 n4 (exec_extract h4 (by simp [Og.ev, Og.upd, c1.symm]; exact hT.symm) rfl w1) fun a hF => ?_
  refine Og.st_same (.int .i64 (Wi.unpack l).2.2) hF g5 t5 n5 (exec_extract h5 (by simp [Og.ev, Og.upd, c1.symm, c2.symm]; exact hT.symm) rfl w1) fun a hF => ?_
  refine Og.st_val (w' := w1.alloc (.cells (pkL (Wi.Pk.zero 0) (.slice none 0 0)).toArray 34)) (.pointer (some ⟨w1.heap.size, 0, none⟩)) hF g6 t6 n6 (alloc_pk h6 w1) fun a hF => ?_
  have hz2 := heap_new w1 (.cells (pkL (Wi.Pk.zero 0) (.slice none 0 0)).toArray 34) w1.heap.size rfl
  have hone : pv.oneCell' = true := by
    obtain ⟨q, c, e⟩ := ho.rb.form
    rw [e]; rfl
  refine Og.st_skip (w' := (w1.alloc (.cells (pkL (Wi.Pk.zero 0) (.slice none 0 0)).toArray 34)).setCells w1.heap.size 0 (pkL (Wi.unpack l).1 pv)) hF g7 t7
    (exec_store (o := 0) (vs := pkL (Wi.unpack l).1 pv) (cs := pkL (Wi.Pk.zero 0) (.slice none 0 0)) h7 (by simp [Og.ev, Og.upd]) (by simp [Og.ev, Og.upd, c3.symm, c5.symm, c6.symm]; rfl) hz2 (by rw [pkL_length hok, pkL_length (Wi.Pk.zero_ok 0)]; decide) (by rw [pkL_length hok]; exact pk_i) (pkL_one _ pv hone)) fun a hF => ?_
  have hP := PkAt.store hz2 0 _ (Wi.unpack l).1 pv (set_all hok (Wi.Pk.zero_ok 0))
  have hb2 : Below w1.heap.size w1 ((w1.alloc (.cells (pkL (Wi.Pk.zero 0) (.slice none 0 0)).toArray 34)).setCells w1.heap.size 0 (pkL (Wi.unpack l).1 pv)) :=
    (below_alloc1 w1 _).grown (setCells_grown _ w1.heap.size 0 _) (by simp) (fun k hk => by injection hk with hk; omega)
  generalize (w1.alloc (.cells (pkL (Wi.Pk.zero 0) (.slice none 0 0)).toArray 34)).setCells w1.heap.size 0 (pkL (Wi.unpack l).1 pv) = w2 at *
  refine Og.st_same (.int .i64 ((Wi.unpack l).2.1 : Nat)) hF g8 t8 n7 (by rw [exec_assign h8]; simp [Og.ev, Og.upd, c4.symm, c7.symm]) fun a hF => ?_
  refine Og.st_same (.int .i64 (Wi.unpack l).2.2) hF g9 t9 n8 (by rw [exec_assign h9]; simp [Og.ev, Og.upd, c8.symm, c9.symm]) fun a hF => ?_
  exact wpList_nil (k a w2 w1.heap.size pv T hF hP (ho.below hb2) (hb.trans (hb2.mono hb.size)) hb.size hok)
end

namespace Wi
theorem rdAll_ok : ∀ (fs : List Fd) (p : Pk) (l : List UInt8) (q : Pk) (r : List UInt8), p.Ok → rdAll fs p l = .ok q r → q.Ok
  | [], p, l, q, r, hp, h => by
    simp only [rdAll, Res.ok.injEq] at h
    rw [← h.1]; exact hp
  | x :: fs, p, l, q, r, hp, h => by
    rw [rdAll] at h
    cases hq : rdF p x l with
    | ok t u => rw [hq] at h; exact rdAll_ok fs t u q r (rdF_ok hp hq) h
    | bad u => rw [hq] at h; cases h
theorem unpack_ok (l : List UInt8) : (unpack l).1.Ok := by
  cases l with
  | nil => exact Pk.zero_ok 0
  | cons b l =>
    cases hk : knownB b.toNat with
    | false =>
      show (if knownB b.toNat = false then _ else _ : Pk × Nat × Int).1.Ok
      rw [if_pos hk]
      exact Pk.zero_ok 0
    | true =>
      rw [unpack_known hk]
      cases hq : rdAll (fieldsOf b.toNat) (Pk.zero b.toNat) l with
      | ok q r =>
        cases r with
        | nil => exact rdAll_ok _ _ _ _ _ (Pk.zero_ok _) hq
        | cons d r => exact Pk.zero_ok 0
      | bad r => cases r <;> exact Pk.zero_ok 0
end Wi

/-- A call that answers bytes of its own and a number. -/
def Makes (f : FuncId) (args : Array Value) (w : World) (l : List UInt8) (err : Int) : Prop :=
  Calls Tryd.prog f args w fun e w' => ∃ v', e = .returned (.tuple #[v', .int .i64 err]) ∧ OB w.heap.size w' v' l ∧ Below w.heap.size w w'
theorem encodeFrame_calls {w : World} {v : Value} (x : Wi.Fr) (h : RB w v x.pay) (hx : x.Ok) :
    Makes 31 #[.agg (frameC x v)] w (Wi.encOut x) (Wi.encErr x) := by
  unfold Makes Wi.encOut Wi.encErr
  cases hk : Wi.kindOk x.kind
  · exact (encodeFrame_kind x h hk).mono fun e w' ⟨he, hb⟩ => ⟨_, he, OB.nil_ _ _, hb⟩
  · cases hc : Wi.carries x.kind x.pay.length
    · exact (encodeFrame_body x h hk hc).mono fun e w' ⟨he, hb⟩ => ⟨_, he, OB.nil_ _ _, hb⟩
    · exact encodeFrame_good x h hx hk hc

set_option maxHeartbeats 4000000 in
theorem ownFrame_calls {w : World} {v : Value} (x : Wi.Fr) (h : RB w v x.pay) :
    Calls Tryd.prog 32 #[.agg (frameC x v)] w fun e w' => ∃ v', e = .returned (.agg (frameC x v')) ∧ RB w' v' x.pay ∧ Below w.heap.size w w' := by
  obtain ⟨a, c, hpv⟩ := h.form
  generalize hnn : x.pay.length = n at hpv
  subst hpv
  clear hnn
  have hne := fun w => neq_slice w a n c
  cases a with
  | none =>
    have hne : ∀ w, (binOp .neq 32 (.slice none n c) (.slice none 0 0)).run Tryd.prog w = .ok (.bool false) w := hne
    go_enter Tryd.func32, Tryd.ntmps32
    go_wp2_with fail
    refine bodyPost_ret (v := .agg (frameC x (.slice none n c))) (by simp [results, Tryd.results32, go_sem, frameC]) rfl ?_
    exact ⟨_, rfl, h.below (below_alloc2 _ _ _), below_alloc2 _ _ _⟩
  | some a =>
    have hne : ∀ w, (binOp .neq 32 (.slice (some a) n c) (.slice none 0 0)).run Tryd.prog w = .ok (.bool true) w := hne
    go_enter Tryd.func32, Tryd.ntmps32
    go_wp2_with fail
    refine (copied_calls (h.below (below_alloc2 _ _ _))).mono ?_
    rintro e w1 ⟨v', rfl, hv', hb1⟩
    obtain ⟨w2, rfl, hb2, hl0, hl1⟩ := behind_alloc2 hb1
    obtain ⟨dp, dc, hdvf⟩ := hv'.rb.form
    have hdlt : ∀ k, v'.ownBlock = some k → w.heap.size + 2 ≤ k := fun k e => by have := (hv'.lt k e).1; simpa using this
    generalize hdn : x.pay.length = dn at hdvf
    subst hdvf
    clear hdn
    have hne01 : w.heap.size + 1 ≠ w.heap.size := by omega
    have hne10 : w.heap.size ≠ w.heap.size + 1 := by omega
    have hv2 := hv'.rb
    clear hv'
    go_wp2_with fail
    refine bodyPost_ret (v := .agg (frameC x (.slice dp dn dc))) (by simp [results, Tryd.results32, go_sem, frameC, hl0, hl1, hne01, hne10]) rfl ?_
    refine ⟨_, rfl, hv2.keep (by simp) (fun _ g o e _ => World.cell?_of_block ?_), below_wb (below_wb hb2 (Nat.le_refl _)) (by omega)⟩
    have hg := hdlt g e
    have h1 : w.heap.size + 1 ≠ g := by omega
    have h2 : w.heap.size ≠ g := by omega
    exact ((heap_wb_ne h1).trans (heap_wb_ne h2)).trans ((heap_wb_ne h1).trans (heap_wb_ne h2)).symm
end Go.Proofs.YtbgfoobcpacfeaaDoor

/- The statements' example. -/
namespace Go.Proofs.YtbgfoobcpacfeaaDoor
open Go.RowKit
set_option maxRecDepth 100000
set_option linter.unusedVariables false
set_option linter.unusedSimpArgs false

abbrev p10 : Wi.Pk := ⟨10, 7, 300, 0, 0, 0, 0, 0, 0, 0, Wi.zeros, []⟩
abbrev b10 : List UInt8 := [10, 0, 0, 0, 7, 0, 0, 1, 44]
abbrev c10 : Array Value := #[.int .u8 10, .int .u8 0, .int .u8 0, .int .u8 0, .int .u8 7, .int .u8 0, .int .u8 0, .int .u8 1, .int .u8 44]
theorem p10_ok : Wi.Pk.Ok p10 := by
  constructor <;> first | (show _ < _; decide) | rfl | exact Nat.zero_le _
theorem p10_err : Wi.packErr p10 = 0 := by kernel_rfl
theorem p10_out : Wi.packOut p10 = b10 := by kernel_rfl
theorem b10_un : Wi.unpack b10 = (p10, 0, 0) := by kernel_rfl
abbrev x3 : Wi.Fr := ⟨2, 5, 6, 7, 8, [97, 98, 99]⟩
theorem x3_ok : x3.Ok := by
  refine ⟨?_, ?_, ?_, ?_⟩ <;> decide
theorem x3_err : Wi.encErr x3 = 0 := by kernel_rfl
theorem x3_len : (Wi.encOut x3).length = 29 := by kernel_rfl
theorem x3_derr : Wi.decErr (Wi.encOut x3) = 0 := by kernel_rfl
theorem x3_dec : Wi.decFr (Wi.encOut x3) = x3 := by kernel_rfl
theorem build_10 {ρ : Operand → Value} {o : Oper} (ho : o.op = .build 34 #[(0, .const (.int .i64 10)), (1, .const (.int .u32 7)), (2, .const (.int .u32 300))]) (hρ : ∀ v, ρ (.const v) = v) (w : World) : (execOp ρ o).run Tryd.prog w = .ok (.value (.agg (pkL p10 (.slice none 0 0)).toArray)) w := by
  have h1 : (Instr.build 34 #[(0, .int .i64 10), (1, .int .u32 7), (2, .int .u32 300)]).run Tryd.prog w = .ok (.agg (pkL p10 (.slice none 0 0)).toArray) w := by kernel_rfl
  unfold execOp
  rw [ho]
  simp [hρ, h1]
end Go.Proofs.YtbgfoobcpacfeaaDoor

/- Plain regions with guards, step by step, the frame a function; the operations that write a packet's bytes. -/
namespace Go.Proofs.YtbgfoobcpacfeaaDoor
open Go.RowKit
set_option maxRecDepth 100000
set_option linter.unusedVariables false
set_option linter.unusedSimpArgs false
namespace Og
section
variable {P : Program} {ops : Array Oper} {rest : List Oper} {o : Oper} {a : Act} {Q : Exit → Act → World → Prop} {n : Nat} {φ : Nat → Value} {w w' : World}
/-- The frame as cells. -/
abbrev cellsF (n : Nat) (φ : Nat → Value) : Array Value := ((List.range n).map φ).toArray
theorem Fr.tmps {n : Nat} {a : Act} {φ : Nat → Value} (h : Fr n a φ) : a.tmps = cellsF n φ := by rw [h.lit_eq]
theorem st_val_g {d : Nat} (v : Value) (hF : Fr n a φ) (hg : Region.wanted o (yielded ops (cellsF n φ)) = true) (hd : o.dst = some d) (hn : d < n) (hr : (execOp (ev φ) o).run P w = .ok (.value v) w') (k : ∀ a', Fr n a' (upd φ d v) → wpList P ops Q rest a' w') : wpList P ops Q (o :: rest) a w := by
  refine wpList_step fun K hK => ?_
  rw [if_pos (by rw [hF.tmps]; exact hg)]
  unfold Oper.wp
  rw [hF.eval, hr]
  show K (a.put o.dst v) w'
  rw [hd]
  exact hK _ _ (k _ (hF.put d v hn))
theorem st_same_g {d : Nat} (v : Value) (hF : Fr n a φ) (hg : Region.wanted o (yielded ops (cellsF n φ)) = true) (hd : o.dst = some d) (hn : d < n) (hr : (execOp (ev φ) o).run P w = .ok (.value v) w) (k : ∀ a', Fr n a' (upd φ d v) → wpList P ops Q rest a' w) : wpList P ops Q (o :: rest) a w := st_val_g v hF hg hd hn hr k
theorem st_call_g {d : Nat} {f : FuncId} {args : Array Value} (hF : Fr n a φ) (hg : Region.wanted o (yielded ops (cellsF n φ)) = true) (hd : o.dst = some d) (hn : d < n) (hr : (execOp (ev φ) o).run P w = .ok (.enter f args) w) (hc : Calls P f args w fun e w' => ∃ v, e = .returned v ∧ ∀ a', Fr n a' (upd φ d v) → wpList P ops Q rest a' w') : wpList P ops Q (o :: rest) a w := by
  refine wpList_step fun K hK => ?_
  rw [if_pos (by rw [hF.tmps]; exact hg)]
  unfold Oper.wp
  rw [hF.eval, hr]
  refine Calls.mono hc fun e w' ⟨v, he, h⟩ => ?_
  subst he
  show K (a.put o.dst v) w'
  rw [hd]
  exact hK _ _ (h _ (hF.put d v hn))
theorem st_pass {d : Nat} (hF : Fr n a φ) (hg : Region.wanted o (yielded ops (cellsF n φ)) = false) (hd : o.dst = some d) (hn : d < n) (k : ∀ a', Fr n a' (upd φ d undef) → wpList P ops Q rest a' w) : wpList P ops Q (o :: rest) a w := by
  refine wpList_step fun K hK => ?_
  rw [if_neg (by rw [hF.tmps, hg]; decide)]
  rw [hd]
  exact hK _ _ (k _ (hF.put d undef hn))
end
end Og
theorem enc_enter : Og.Enters Tryd.prog 20 := fun args w => by kernel_rfl
theorem ownP_enter : Og.Enters Tryd.prog 28 := fun args w => by kernel_rfl
theorem copied_enter : Og.Enters Tryd.prog 30 := fun args w => by kernel_rfl
theorem num_enter : Og.Enters Tryd.prog 17 := fun args w => by kernel_rfl
theorem same_enter : Og.Enters Tryd.prog 22 := fun args w => by kernel_rfl
theorem samePk_enter : Og.Enters Tryd.prog 23 := fun args w => by kernel_rfl
theorem example_enter : Og.Enters Tryd.prog 29 := fun args w => by kernel_rfl
section
variable {ops : Array Oper} {Q : Exit → Act → World → Prop} {n : Nat} {φ : Nat → Value} {w : World} {a : Act}
/-- The operations that write a packet: call, move, two parts, two moves. -/
theorem st_enc {o1 o2 o3 o4 o5 o6 : Oper} {p : Wi.Pk} {pv : Value} (s d1 dm e0 e1 x0 x1 : Nat) (hF : Og.Fr n a φ) (hp : p.Ok) (hr : RB w pv p.data) (hS : Szs w) (hs : φ s = .agg (pkL p pv).toArray)
    (k : ∀ a' w' v T, Og.Fr n a' (Og.upd (Og.upd (Og.upd (Og.upd (Og.upd (Og.upd φ d1 T) dm T) e0 v) e1 (.int .i64 (Wi.packErr p))) x0 v) x1 (.int .i64 (Wi.packErr p))) →
      OB w.heap.size w' v (Wi.packOut p) → Below w.heap.size w w' → Q .normal a' w')
    (h1 : o1.op = .call { callee := .value (.func 20), args := #[.tmp s], argTypes := #[34] } := by rfl) (h2 : o2.op = .move (.tmp d1) := by rfl) (h3 : o3.op = .extract (.tmp dm) 0 := by rfl) (h4 : o4.op = .extract (.tmp dm) 1 := by rfl)
    (h5 : o5.op = .assign (.tmp e0) := by rfl) (h6 : o6.op = .assign (.tmp e1) := by rfl)
    (g1 : o1.guard = none := by rfl) (g2 : o2.guard = none := by rfl) (g3 : o3.guard = none := by rfl) (g4 : o4.guard = none := by rfl) (g5 : o5.guard = none := by rfl) (g6 : o6.guard = none := by rfl)
    (t1 : o1.dst = some d1 := by rfl) (t2 : o2.dst = some dm := by rfl) (t3 : o3.dst = some e0 := by rfl) (t4 : o4.dst = some e1 := by rfl) (t5 : o5.dst = some x0 := by rfl) (t6 : o6.dst = some x1 := by rfl)
    (hn : d1 < n ∧ dm < n ∧ e0 < n ∧ e1 < n ∧ x0 < n ∧ x1 < n := by decide)
    (hd : (e0 ≠ dm ∧ e1 ≠ e0 ∧ x0 ≠ e1) := by decide) :
    wpList Tryd.prog ops Q [o1, o2, o3, o4, o5, o6] a w := by
  obtain ⟨n1, n2, n3, n4, n5, n6⟩ := hn
  obtain ⟨c1, c2, c3⟩ := hd
  refine Og.st_call (f := 20) (args := #[.agg (pkL p pv).toArray]) hF g1 t1 n1 (by rw [Og.exec_call h1 enc_enter rfl]; simp [Og.ev, hs]) ((encP_calls hp hr hS).mono ?_)
  rintro e w1 ⟨v, rfl, ho, hb⟩
  refine ⟨_, rfl, fun a hF => ?_⟩
  generalize hT : (Value.tuple #[v, .int .i64 (Wi.packErr p)]) = T at hF
  refine Og.st_same T hF g2 t2 n2 (by rw [exec_move h2]; simp [Og.ev, Og.upd]) fun a hF => ?_
  refine Og.st_same v hF g3 t3 n3 (exec_extract h3 (by simp [Og.ev, Og.upd]; exact hT.symm) rfl w1) fun a hF => ?_
  refine Og.st_same (.int .i64 (Wi.packErr p)) hF g4 t4 n4 (exec_extract h4 (by simp [Og.ev, Og.upd, c1.symm]; exact hT.symm) rfl w1) fun a hF => ?_
  refine Og.st_same v hF g5 t5 n5 (by rw [exec_assign h5]; simp [Og.ev, Og.upd, c2.symm]) fun a hF => ?_
  refine Og.st_same (.int .i64 (Wi.packErr p)) hF g6 t6 n6 (by rw [exec_assign h6]; simp [Og.ev, Og.upd, c3.symm]) fun a hF => ?_
  exact wpList_nil (k a w1 v T hF ho hb)
end
end Go.Proofs.YtbgfoobcpacfeaaDoor
