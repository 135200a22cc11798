/- What the laws of chapter 7 use: two lists that are the same; a list with marks behind it; turning every byte. -/
import Derived.Test.YtbgfoobcpacfeaaWLib
import Derived.WalkSpells
namespace Go.Proofs.Ytbgfoobcpacfeaa
open Go.RowKit
set_option linter.unusedVariables false
set_option linter.unusedSimpArgs false

set_option maxRecDepth 100000 in
set_option maxHeartbeats 4000000 in
theorem same_calls {w : World} {va vb : Value} {l : List UInt8} (h : RB w va l) (h' : RB w vb l) : Pur Try.prog 10 #[va, vb] w (.bool true) := by
  unfold Pur
  obtain ⟨p, c, rfl, h1, h2, h3, hr⟩ := h
  obtain ⟨p', c', rfl, h1', h2', h3', hr'⟩ := h'
  go_enter Try.func10, Try.ntmps10
  go_wp2_with fail
  refine wp_loop_count (fun i a w' => (∃ U : Nat → Value, a = ⟨#[.slice p l.length c, .slice p' l.length c', U 2, U 3, .bool false, .int .i64 i, U 6, U 7, U 8, U 9, U 10, U 11, U 12, U 13, U 14, U 15, U 16, U 17, U 18, U 19, U 20, U 21, U 22, U 23, U 24, U 25], []⟩) ∧ Below w.heap.size w w') l.length ⟨exU (fun U => ⟨#[.slice p l.length c, .slice p' l.length c', U 2, U 3, .bool false, .int .i64 0, U 6, U 7, U 8, U 9, U 10, U 11, U 12, U 13, U 14, U 15, U 16, U 17, U 18, U 19, U 20, U 21, U 22, U 23, U 24, U 25], []⟩) rfl, Below.refl _ _⟩ ?_ ?_
  · rintro i a w' hi ⟨⟨U, rfl⟩, hb⟩
    obtain ⟨b, hlb⟩ : ∃ b, l[i]? = some b := ⟨l[i], List.getElem?_eq_getElem hi⟩
    obtain ⟨g, o, rfl, hg, hcell⟩ := hr i b hlb
    obtain ⟨g', o', rfl, hg', hcell'⟩ := hr' i b hlb
    have hgw : g < w'.heap.size := Nat.lt_of_lt_of_le hg hb.size
    have hgw' : g' < w'.heap.size := Nat.lt_of_lt_of_le hg' hb.size
    replace hcell := ((bcell hb).1 g (o + i) hg).trans hcell
    replace hcell' := ((bcell hb).1 g' (o' + i) hg').trans hcell'
    have hi' : (i : Int) < (l.length : Int) := by exact_mod_cast hi
    have hi0 : (0 : Int) ≤ (i : Int) := Int.natCast_nonneg i
    clear hr hr' hlb
    go_wp2_with fail
    refine wp_region_here (by kernel_rfl) (by kernel_rfl) ?_
    (repeat (first | (apply wpR_pass rfl; (try simp only [Act.put, List.setIfInBounds_toArray, List.set_cons_succ, List.set_cons_zero])) | (apply wpR_val rfl; (focus (intro w1 hR; obtain ⟨hc, hf⟩ := bcellB hR; (try go_simp); (try exact Eq.refl _); done)); (try simp only [Act.put, List.setIfInBounds_toArray, List.set_cons_succ, List.set_cons_zero])) | (apply wpR_call rfl; (focus (intro w1 hR; obtain ⟨hc, hf⟩ := bcellB hR; (try go_simp); (try exact And.intro rfl rfl); done)); (focus (intro w1 hR; first | exact ().at_ (by first | omega | (simp; done) | (simp; omega)) hR)); (try simp only [Act.put, List.setIfInBounds_toArray, List.set_cons_succ, List.set_cons_zero])) | (apply wpR_val_want rfl; (focus (intro w1 hR; obtain ⟨hc, hf⟩ := bcellB hR; (try go_simp); (try exact Eq.refl _); done)); (try simp only [Act.put, List.setIfInBounds_toArray, List.set_cons_succ, List.set_cons_zero])) | (apply wpR_call_want rfl; (focus (intro w1 hR; obtain ⟨hc, hf⟩ := bcellB hR; (try go_simp); (try exact And.intro rfl rfl); done)); (focus (intro w1 hR; first | exact ().at_ (by first | omega | (simp; done) | (simp; omega)) hR)); (try simp only [Act.put, List.setIfInBounds_toArray, List.set_cons_succ, List.set_cons_zero]))))
    refine wpR_nil (fun w2 hb2 => ?_)
    go_wp2_with fail
    exact ⟨exU (fun U => ⟨#[.slice (some ⟨g, o, none⟩) l.length c, .slice (some ⟨g', o', none⟩) l.length c', U 2, U 3, .bool false, .int .i64 (i + 1 : Nat), U 6, U 7, U 8, U 9, U 10, U 11, U 12, U 13, U 14, U 15, U 16, U 17, U 18, U 19, U 20, U 21, U 22, U 23, U 24, U 25], []⟩) rfl, hb.trans (hb2.mono hb.size)⟩
  · rintro a w' ⟨⟨U, rfl⟩, hb⟩
    go_wp2_with fail
    go_ret
    exact ⟨rfl, hb⟩

theorem ofInt_i64 (a : Nat) (ha : a < 9223372036854775808) : (BitVec.ofInt 64 (a : Int)).toNat = a := by
  rw [BitVec.ofInt_natCast, BitVec.toNat_ofNat]; exact Nat.mod_eq_of_lt (by omega)
theorem i64_xor_nat (a b : Nat) (ha : a < 9223372036854775808) (hb : b < 9223372036854775808) : bits .xor .i64 (a : Int) (b : Int) = ((a ^^^ b : Nat) : Int) := by
  have hx : a ^^^ b < 2 ^ 63 := Nat.xor_lt_two_pow (by omega) (by omega)
  show IntKind.i64.wrap ((BitVec.ofInt 64 (a : Int) ^^^ BitVec.ofInt 64 (b : Int)).toNat : Int) = _
  rw [BitVec.toNat_xor, ofInt_i64 a ha, ofInt_i64 b hb, IntKind.wrap_i64]
  omega
theorem take_marks {i : Nat} (h : i < 40) : Wi.marks.take (i + 1) = Wi.marks.take i ++ [UInt8.ofNat (165 ^^^ i)] := by
  rw [Wi.take_next (Wi.marks_at h)]

set_option maxRecDepth 100000 in
set_option maxHeartbeats 4000000 in
theorem roomy_calls {w : World} {v : Value} {l : List UInt8} (h : RB w v l) (hl : l.length + 40 ≤ 140737488355328) :
    Calls Try.prog 5 #[v] w fun e w' => ∃ v', e = .returned v' ∧ OB w.heap.size w' v' (l ++ Wi.marks) ∧ Below w.heap.size w w' := by
  have hv : RB (w.alloc (.cells #[] 5)) v l := h.below (below_alloc1 _ _)
  have h0 : OB w.heap.size (w.alloc (.cells #[] 5)) (.slice (some ⟨w.heap.size, 0, none⟩) 0 0) [] := OB.new w #[] [] rfl (by simp) (Nat.le_refl _)
  go_enter Try.func5, Try.ntmps5
  go_wp2_with (first
      | (at_builtin
         refine wpList_append_OB (v := .slice (some ⟨w.heap.size, 0, none⟩) 0 0) rfl (.tmp 5) (.tmp 6) rfl rfl rfl rfl h0 hv (by simp; omega) (by simp) ?_
         intro v1 w1 ho1 hg1 hat1)
      | fail)
  rw [List.nil_append] at ho1
  have hb1 : Below w.heap.size w w1 := (below_alloc1 _ _).trans ((Below.refl _ _).grown hg1 (by simp) (fun k hk => by cases hk; exact Nat.le_refl _))
  clear h0 hv h hg1 hat1
  refine wp_loop_count (fun i a w' => ∃ v', (∃ U : Nat → Value, a = ⟨#[v, U 1, .slice none 0 0, v', .int .i64 i, U 5, U 6, U 7, U 8, U 9, U 10, U 11, U 12, U 13, U 14, U 15, U 16, U 17, U 18], []⟩) ∧ OB w.heap.size w' v' (l ++ Wi.marks.take i) ∧ Below w.heap.size w w') 40 ⟨v1, exU (fun U => ⟨#[v, U 1, .slice none 0 0, v1, .int .i64 0, U 5, U 6, U 7, U 8, U 9, U 10, U 11, U 12, U 13, U 14, U 15, U 16, U 17, U 18], []⟩) rfl, by simpa using ho1, hb1⟩ ?_ ?_
  · rintro i a w' hi ⟨v', ⟨U, rfl⟩, ho, hb⟩
    have hi' : (i : Int) < 40 := by exact_mod_cast hi
    have hi0 : (0 : Int) ≤ (i : Int) := Int.natCast_nonneg i
    have hx : bits .xor .i64 165 (i : Int) = ((165 ^^^ i : Nat) : Int) := i64_xor_nat 165 i (by omega) (by omega)
    have Hl : Hid (#[Value.int .u8 (((165 ^^^ i : Nat) : Int) % 256)] = ([UInt8.ofNat (165 ^^^ i)].map bv).toArray) := by
      show _ = #[bv _]
      rw [bv_of]
    have hlen : (l ++ Wi.marks.take i).length + 1 ≤ 140737488355328 := by
      rw [List.length_append, List.length_take, Wi.marks_length]; omega
    have hsz : w.heap.size ≤ w'.heap.size := hb.size
    have hlt := ho.lt
    go_wp2_with (first
      | (at_builtin
         refine wpList_append_OB (v := v') rfl (.tmp 12) (.tmp 16) rfl rfl rfl rfl (ho.below (below_alloc1 _ _)) (RB.lit _ _ [UInt8.ofNat (165 ^^^ i)] 1 Hl.out rfl (by simp)) hlen (by simp; omega) ?_
         intro v2 w2 ho2 hg2 hat2)
      | fail)
    rw [List.append_assoc, ← take_marks hi] at ho2
    exact ⟨v2, exU (fun U => ⟨#[v, U 1, .slice none 0 0, v2, .int .i64 (i + 1 : Nat), U 5, U 6, U 7, U 8, U 9, U 10, U 11, U 12, U 13, U 14, U 15, U 16, U 17, U 18], []⟩) rfl, ho2, (hb.trans ((below_alloc1 _ _).mono hsz)).grown hg2 (by simp; omega) (fun k hk => (hlt k hk).1)⟩
  · rintro a w' ⟨v', ⟨U, rfl⟩, ho, hb⟩
    go_wp2_with fail
    go_ret
    exact ⟨v', rfl, by simpa [List.take_of_length_le (show Wi.marks.length ≤ 40 from Nat.le_refl _)] using ho, hb⟩

set_option maxRecDepth 100000 in
set_option maxHeartbeats 4000000 in
theorem given_calls {w : World} {vf v : Value} {l : List UInt8} {B : Nat} (hf : OB B w vf (l ++ Wi.marks)) (h : RB w v l) :
    Calls Try.prog 6 #[vf, v] w fun e w' => ∃ v', e = .returned v' ∧ w = w' ∧ RB w v' l ∧ (∀ k, v'.ownBlock = some k → vf.ownBlock = some k) := by
  obtain ⟨g, cap, rfl, hB, hg, hn, hc, hcell, hfr⟩ := hf.form (by simp [Wi.marks])
  obtain ⟨p, c, rfl, h1, h2, h3, hr⟩ := h
  rw [List.length_append, Wi.marks_length] at hn
  have hll : (l ++ Wi.marks).length = l.length + 40 := by rw [List.length_append, Wi.marks_length]
  have hm : maxLen = 9223372036854775807 := rfl
  rw [hm] at hc
  cases p with
  | none =>
    have hl : l = [] := by
      cases l with
      | nil => rfl
      | cons b r => obtain ⟨_, _, e, _⟩ := hr 0 b rfl; cases e
    subst hl
    go_enter Try.func6, Try.ntmps6
    go_wp2_with fail
    go_ret
    exact ⟨_, rfl, rfl, RB.nil_ w, fun k hk => by cases hk⟩
  | some a =>
    have hcl : (l.length : Int) ≤ (cap : Int) := by omega
    go_enter Try.func6, Try.ntmps6
    go_wp2_with fail
    go_ret
    refine ⟨_, rfl, rfl, ⟨_, cap, rfl, by omega, by omega, h3, fun i b hb => ⟨g, 0, rfl, hg, ?_⟩⟩, fun k hk => hk⟩
    rw [Nat.zero_add]
    refine hcell i b ?_
    rw [List.getElem?_append_left (List.getElem?_eq_some_iff.1 hb).1]
    exact hb

set_option maxRecDepth 100000 in
set_option maxHeartbeats 4000000 in
theorem untouched_calls {w : World} {vf v : Value} {l : List UInt8} {B : Nat} (hf : OB B w vf (l ++ Wi.marks)) (h : RB w v l) :
    Pur Try.prog 11 #[vf, v] w (.bool true) := by
  unfold Pur
  have hmax := hf.2
  obtain ⟨g, cap, rfl, hB, hg, hn, hc, hcell, hfr⟩ := hf.form (by simp [Wi.marks])
  have hrb : RB w (.slice (some ⟨g, 0, none⟩) l.length cap) l := by
    rw [List.length_append, Wi.marks_length] at hn
    refine ⟨_, cap, rfl, by omega, hc, h.len, fun i b hb => ⟨g, 0, rfl, hg, ?_⟩⟩
    rw [Nat.zero_add]
    refine hcell i b ?_
    rw [List.getElem?_append_left (List.getElem?_eq_some_iff.1 hb).1]
    exact hb
  have hsame := same_calls hrb h
  obtain ⟨p, c, rfl, h1, h2, h3, hr⟩ := h
  rw [List.length_append, Wi.marks_length] at hn hmax
  have hll : (l ++ Wi.marks).length = l.length + 40 := by rw [List.length_append, Wi.marks_length]
  have hm : maxLen = 9223372036854775807 := rfl
  rw [hm] at hc
  have hcl : (l.length : Int) ≤ (cap : Int) := by omega
  rw [hll]
  clear hrb hr hf hll
  go_enter Try.func11, Try.ntmps11
  go_wp2_with (first | (go_at_call 10; refine hsame.out.mono ?_; rintro e w1 ⟨rfl, hb1⟩) | fail)
  refine wp_loop_count (fun i a w' => (∃ U : Nat → Value, a = ⟨#[.slice (some ⟨g, 0, none⟩) (l.length + 40) cap, .slice p l.length c, U 2, U 3, .bool false, .int .i64 i, U 6, U 7, U 8, U 9, U 10, U 11, U 12, U 13, U 14, U 15, U 16, U 17, U 18, U 19, U 20, U 21, U 22, U 23, U 24, U 25, U 26, U 27, U 28, U 29, U 30, U 31, U 32, U 33, U 34, U 35], []⟩) ∧ w' = w1) 40 ⟨exU (fun U => ⟨#[.slice (some ⟨g, 0, none⟩) (l.length + 40) cap, .slice p l.length c, U 2, U 3, .bool false, .int .i64 0, U 6, U 7, U 8, U 9, U 10, U 11, U 12, U 13, U 14, U 15, U 16, U 17, U 18, U 19, U 20, U 21, U 22, U 23, U 24, U 25, U 26, U 27, U 28, U 29, U 30, U 31, U 32, U 33, U 34, U 35], []⟩) rfl, rfl⟩ ?_ ?_
  · rintro i a w' hi ⟨⟨U, rfl⟩, rfl⟩
    have hi' : (i : Int) < 40 := by exact_mod_cast hi
    have hi0 : (0 : Int) ≤ (i : Int) := Int.natCast_nonneg i
    have hx : bits .xor .i64 165 (i : Int) = ((165 ^^^ i : Nat) : Int) := i64_xor_nat 165 i (by omega) (by omega)
    have hcl1 : w'.cell? ⟨g, l.length + i, none⟩ = some (bv (UInt8.ofNat (165 ^^^ i))) := by
      refine ((bcell hb1).1 g _ hg).trans (hcell _ _ ?_)
      rw [List.getElem?_append_right (by omega), Nat.add_sub_cancel_left]
      exact Wi.marks_at hi
    rw [bv_of] at hcl1
    clear hcell
    go_wp2_with fail
    exact ⟨exU (fun U => ⟨#[.slice (some ⟨g, 0, none⟩) (l.length + 40) cap, .slice p l.length c, U 2, U 3, .bool false, .int .i64 (i + 1 : Nat), U 6, U 7, U 8, U 9, U 10, U 11, U 12, U 13, U 14, U 15, U 16, U 17, U 18, U 19, U 20, U 21, U 22, U 23, U 24, U 25, U 26, U 27, U 28, U 29, U 30, U 31, U 32, U 33, U 34, U 35], []⟩) rfl, trivial⟩
  · rintro a w' ⟨⟨U, rfl⟩, rfl⟩
    go_wp2_with fail
    go_ret
    exact ⟨rfl, hb1⟩

/-- A byte laid over another. -/
theorem OB.store {w : World} {B g n cap : Nat} {l : List UInt8} (h : OB B w (.slice (some ⟨g, 0, none⟩) n cap) l) (i : Nat) (b : UInt8) :
    OB B (w.setCell ⟨g, i, none⟩ (bv b)) (.slice (some ⟨g, 0, none⟩) n cap) (l.set i b) ∧ w.grownBy (w.setCell ⟨g, i, none⟩ (bv b)) (some g) := by
  have hn : n = l.length := by obtain ⟨p, c, e, _⟩ := h.rb; simp only [Value.slice.injEq] at e; exact e.2.1
  subst hn
  have hs := World.ownsRow.stored h.1 i (bv b)
  refine ⟨⟨?_, by simpa using h.2⟩, hs.2⟩
  rw [List.length_set, List.map_set]
  exact hs.1

set_option maxRecDepth 100000 in
set_option maxHeartbeats 4000000 in
theorem spoil_calls {w : World} {v : Value} {l : List UInt8} {B : Nat} (h : OB B w v l) :
    Calls Try.prog 12 #[v] w fun e w' => e = .returned (.tuple #[]) ∧ (∃ l', OB B w' v l') ∧ w.grownBy w' v.ownBlock := by
  cases l with
  | nil =>
    obtain ⟨p, c, rfl, h1, h2, h3, hr⟩ := h.rb
    go_enter Try.func12, Try.ntmps12
    go_wp2_with fail
    refine wp_loop_count (fun i a w' => (∃ U : Nat → Value, a = ⟨#[.slice p 0 c, U 1, .int .i64 i, U 3, U 4, U 5, U 6, U 7, U 8, U 9, U 10, U 11, U 12, U 13, U 14, U 15, U 16], []⟩) ∧ w' = w) 0 ⟨exU (fun U => ⟨#[.slice p 0 c, U 1, .int .i64 0, U 3, U 4, U 5, U 6, U 7, U 8, U 9, U 10, U 11, U 12, U 13, U 14, U 15, U 16], []⟩) rfl, rfl⟩ (fun i a w' hi => absurd hi (by omega)) ?_
    rintro a w' ⟨⟨U, rfl⟩, rfl⟩
    go_wp2_with fail
    go_end0
    exact ⟨rfl, ⟨[], h⟩, World.grownBy.refl _ _⟩
  | cons b0 r =>
    obtain ⟨g, cap, rfl, hB, hg, hn, hc, hcell, hfr⟩ := h.form (by simp)
    generalize hll : (b0 :: r).length = n at *
    have hmx : n ≤ 140737488355328 := by have := h.2; omega
    have hl0 : ∃ l0 : List UInt8, l0.length = n ∧ OB B w (.slice (some ⟨g, 0, none⟩) n cap) l0 := ⟨_, hll, h⟩
    clear hcell hfr h hll
    go_enter Try.func12, Try.ntmps12
    go_wp2_with fail
    refine wp_loop_count (fun i a w' => (∃ U : Nat → Value, a = ⟨#[.slice (some ⟨g, 0, none⟩) n cap, U 1, .int .i64 i, U 3, U 4, U 5, U 6, U 7, U 8, U 9, U 10, U 11, U 12, U 13, U 14, U 15, U 16], []⟩) ∧ w.grownBy w' (some g) ∧ ∃ l0 : List UInt8, l0.length = n ∧ OB B w' (.slice (some ⟨g, 0, none⟩) n cap) l0) n ⟨exU (fun U => ⟨#[.slice (some ⟨g, 0, none⟩) n cap, U 1, .int .i64 0, U 3, U 4, U 5, U 6, U 7, U 8, U 9, U 10, U 11, U 12, U 13, U 14, U 15, U 16], []⟩) rfl, World.grownBy.refl _ _, hl0⟩ ?_ ?_
    · rintro i a w' hi ⟨⟨U, rfl⟩, hgr, l0, hlen, ho⟩
      obtain ⟨b, hb⟩ : ∃ b, l0[i]? = some b := ⟨l0[i], List.getElem?_eq_getElem (by omega)⟩
      obtain ⟨g', cap', e, _, hg1, _, _, hcell, hfr⟩ := ho.form (by intro e; subst e; simp at hlen; omega)
      simp only [Value.slice.injEq, Option.some.injEq, Addr.mk.injEq, and_true, true_and] at e
      obtain ⟨e1, -, e3⟩ := e
      subst e1 e3
      have hcl := hcell i b hb
      have hfz := hfr i
      have hi' : (i : Int) < (n : Int) := by exact_mod_cast hi
      have hi0 : (0 : Int) ≤ (i : Int) := Int.natCast_nonneg i
      have hx : bits .xor .u8 (b.toNat : Int) 255 = (((b ^^^ 255 : UInt8).toNat : Nat) : Int) := by
        rw [UInt8.toNat_xor]; exact u8_xor_nat b.toNat 255 (by have := b.toNat_lt; omega) (by omega)
      have hst := ho.store i (b ^^^ 255)
      have Hst := Lib.hid hst
      have Hlen := Lib.hid hlen
      clear hcell hfr hst hb hlen
      go_wp2_with fail
      exact ⟨exU (fun U => ⟨#[.slice (some ⟨g, 0, none⟩) n cap, U 1, .int .i64 (i + 1 : Nat), U 3, U 4, U 5, U 6, U 7, U 8, U 9, U 10, U 11, U 12, U 13, U 14, U 15, U 16], []⟩) rfl, hgr.trans Hst.out.2, _, by simpa using Hlen.out, Hst.out.1⟩
    · rintro a w' ⟨⟨U, rfl⟩, hgr, l0, hlen, ho⟩
      go_wp2_with fail
      go_end0
      exact ⟨rfl, ⟨l0, ho⟩, hgr⟩

/-- A frame as a value. -/
abbrev frameV (k : Int) (f t s a : Nat) (v : Value) : Value := .agg #[.int .i64 k, .int .u32 f, .int .u32 t, .int .u32 s, .int .u32 a, v]

set_option maxRecDepth 100000 in
set_option maxHeartbeats 4000000 in
theorem sameFrame_calls {w : World} {va vb : Value} {l : List UInt8} (k : Int) (f t s a : Nat) (h : RB w va l) (h' : RB w vb l) :
    Pur Try.prog 13 #[frameV k f t s a va, frameV k f t s a vb] w (.bool true) := by
  unfold Pur
  have hs := same_calls (h.below (below_alloc2 w (.cells #[.int .i64 k, .int .u32 f, .int .u32 t, .int .u32 s, .int .u32 a, va] 25) (.cells #[.int .i64 k, .int .u32 f, .int .u32 t, .int .u32 s, .int .u32 a, vb] 25))) (h'.below (below_alloc2 w _ _))
  go_enter Try.func13, Try.ntmps13
  go_wp2_with (first | (go_at_call 10; refine hs.out.mono ?_; rintro e w1 ⟨rfl, hb1⟩) | fail)
  go_ret
  exact ⟨rfl, (below_alloc2 w _ _).trans (hb1.mono (by simp; omega))⟩
end Go.Proofs.Ytbgfoobcpacfeaa
