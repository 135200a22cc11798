/- The document's own reader: an identifier. -/
import Derived.Test.YtbgfoobcpacfeaaDoorPk8
import Derived.Test.YtbgfoobcpacfeaaDoorRfNum
namespace Go.Proofs.YtbgfoobcpacfeaaDoor
open Go.RowKit
set_option maxRecDepth 100000
set_option linter.unusedVariables false
set_option linter.unusedSimpArgs false

/-- The loop of 'long', behind i bytes. -/
def RLongI (w : World) (r : Nat) (bs : Value) (l : List UInt8) (at_ : Nat) (i : Nat) (a : Act) (w' : World) : Prop :=
  (∃ U : Nat → Value, a = ⟨#[.pointer (some ⟨r, 0, none⟩), U 1, .int .u64 0, .bool false, .int .u64 (Wi.unbe ((l.drop at_).take i) : Nat), .int .i64 (i : Nat), U 6, U 7, U 8, U 9, U 10, U 11, U 12, U 13, U 14, U 15, U 16, U 17, U 18, U 19, U 20, U 21, U 22, U 23, U 24, U 25, U 26, U 27, U 28, U 29, U 30, U 31, U 32, U 33, U 34, U 35, U 36, U 37, U 38, U 39, U 40, U 41], []⟩) ∧ at_ + i ≤ l.length ∧ RRd w' r bs (at_ + i) ∧ w.grownBy w' (some r)
/-- What 'long' answers. -/
def RLongPost (w : World) (r : Nat) (bs : Value) (l : List UInt8) (at_ : Nat) (e : Ending) (w' : World) : Prop :=
  if at_ + 8 ≤ l.length then e = .returned (.tuple #[.int .u64 (Wi.unbe ((l.drop at_).take 8) : Nat), .bool true]) ∧ RRd w' r bs (at_ + 8) ∧ w.grownBy w' (some r)
  else e = .returned (.tuple #[.int .u64 0, .bool false]) ∧ RRd w' r bs l.length ∧ w.grownBy w' (some r)

set_option maxHeartbeats 8000000 in
theorem rlong_calls {w : World} {r g o c at_ : Nat} {l : List UInt8} (hR : RRd w r (.slice (some ⟨g, o, none⟩) l.length c) at_) (hr : RB w (.slice (some ⟨g, o, none⟩) l.length c) l) (hgr : g ≠ r) (hat : at_ ≤ l.length) (hl : l.length ≤ 140737488355328) :
    Calls Tryd.prog 107 #[.pointer (some ⟨r, 0, none⟩)] w (RLongPost w r (.slice (some ⟨g, o, none⟩) l.length c) l at_) := by
  go_enter Tryd.func107, Tryd.ntmps107
  go_wp2_with fail
  refine wp_loop_count (RLongI w r (.slice (some ⟨g, o, none⟩) l.length c) l at_) 8 ⟨exU (fun U => ⟨#[.pointer (some ⟨r, 0, none⟩), U 1, .int .u64 0, .bool false, .int .u64 (0 : Nat), .int .i64 (0 : Nat), U 6, U 7, U 8, U 9, U 10, U 11, U 12, U 13, U 14, U 15, U 16, U 17, U 18, U 19, U 20, U 21, U 22, U 23, U 24, U 25, U 26, U 27, U 28, U 29, U 30, U 31, U 32, U 33, U 34, U 35, U 36, U 37, U 38, U 39, U 40, U 41], []⟩) rfl, hat, hR, World.grownBy.refl w _⟩ ?_ ?_
  · rintro i a w' hi ⟨⟨U, rfl⟩, hat', hR', hg'⟩
    have h0 := hR'.c0
    have h1 := hR'.c1
    have hrlt := hR'.lt
    have hi0 : (0 : Int) ≤ (i : Int) := Int.natCast_nonneg i
    have hi8 : (i : Int) < 8 := by omega
    have wi1 : IntKind.i64.wrap ((i : Int) + 1) = (i : Int) + 1 := IntWalk.i64_in _ ⟨by omega, by omega⟩
    by_cases he : at_ + i = l.length
    · have Hno := Lib.hid (show ¬ at_ + 8 ≤ l.length by omega)
      have Hr := Lib.hid hR'
      rw [he] at h1 Hr
      have hge : (l.length : Int) ≤ (l.length : Int) := Int.le_refl _
      clear hR' hi
      go_wp2_with fail
      refine wp_region_here (by kernel_rfl) (by kernel_rfl) ?_
      (repeat (first | (apply wpR_pass rfl; (try simp only [Act.put, List.setIfInBounds_toArray, List.set_cons_succ, List.set_cons_zero])) | (apply wpR_val rfl; (focus (intro w1 hR; obtain ⟨hc, hf⟩ := bcellB hR; (try go_simp); (try exact Eq.refl _); done)); (try simp only [Act.put, List.setIfInBounds_toArray, List.set_cons_succ, List.set_cons_zero])) | (apply wpR_call rfl; (focus (intro w1 hR; obtain ⟨hc, hf⟩ := bcellB hR; (try go_simp); (try exact And.intro rfl rfl); done)); (focus (intro w1 hR; first | exact ().at_ (by first | omega | (simp; done) | (simp; omega)) hR)); (try simp only [Act.put, List.setIfInBounds_toArray, List.set_cons_succ, List.set_cons_zero])) | (apply wpR_val_want rfl; (focus (intro w1 hR; obtain ⟨hc, hf⟩ := bcellB hR; (try go_simp); (try exact Eq.refl _); done)); (try simp only [Act.put, List.setIfInBounds_toArray, List.set_cons_succ, List.set_cons_zero])) | (apply wpR_call_want rfl; (focus (intro w1 hR; obtain ⟨hc, hf⟩ := bcellB hR; (try go_simp); (try exact And.intro rfl rfl); done)); (focus (intro w1 hR; first | exact ().at_ (by first | omega | (simp; done) | (simp; omega)) hR)); (try simp only [Act.put, List.setIfInBounds_toArray, List.set_cons_succ, List.set_cons_zero]))))
      refine wpR_nil ?_
      intro w2 hb2
      go_wp2_with fail
      go_ret2
      unfold RLongPost
      rw [if_neg Hno.out]
      exact ⟨rfl, Hr.out.below hb2, World.grownBy.trans hg' (below_grown hb2)⟩
    · obtain ⟨b, hb⟩ : ∃ b, l[at_ + i]? = some b := ⟨l[at_ + i], List.getElem?_eq_getElem (by omega)⟩
      have hcell0 := cell_of_rb hr (at_ + i) b hb
      have hg0 : g < w.heap.size := cell_lt hcell0
      have hgw : g < w'.heap.size := Nat.lt_of_lt_of_le hg0 hg'.size
      have hcell : w'.cell? ⟨g, o + (at_ + i), none⟩ = some (bv b) := (World.cell?_of_block (hg'.block g hg0 (fun e => hgr (by injection e)))).trans hcell0
      have hltI : ((at_ + i : Nat) : Int) < (l.length : Int) := by exact_mod_cast (Nat.lt_of_le_of_ne hat' he)
      have hnge : ¬ (l.length : Int) ≤ ((at_ + i : Nat) : Int) := by omega
      have h0I : (0 : Int) ≤ ((at_ + i : Nat) : Int) := Int.natCast_nonneg _
      have hb2' : (l.drop at_)[i]? = some b := by rw [List.getElem?_drop]; exact hb
      have Hnx := Lib.hid (show Wi.unbe ((l.drop at_).take (i + 1)) = Wi.unbe ((l.drop at_).take i) * 256 + b.toNat by rw [Wi.take_next hb2', Wi.unbe_snoc])
      have hv : Wi.unbe ((l.drop at_).take i) < 72057594037927936 := Nat.lt_of_lt_of_le (Wi.unbe_take_lt (l.drop at_) i) (by
        have := Nat.pow_le_pow_right (n := 256) (by decide) (show i ≤ 7 by omega)
        simpa using this)
      generalize hvv : Wi.unbe ((l.drop at_).take i) = v at *
      obtain ⟨pl, hpl⟩ : ∃ pl, pl = at_ + i := ⟨_, rfl⟩
      rw [← hpl] at hcell h1 hltI hnge h0I hR' he hat' hb
      have Hpl := Lib.hid hpl
      have Hple := Lib.hid (show pl + 1 ≤ l.length by omega)
      have hx : v * 256 < 18446744073709551616 := by omega
      have hxI : (v : Int) * 256 < 18446744073709551616 := by omega
      have hx0 : (0 : Int) ≤ (v : Int) := Int.natCast_nonneg v
      have hb8 := b.toNat_lt
      have hor := or_byte64 b hx
      have hwa : IntKind.u64.wrap ((v : Int) * 256) = (v : Int) * 256 := by simp only [IntKind.wrap, IntKind.bits, IntKind.signed]; simp; omega
      have hwb : IntKind.u64.wrap (b.toNat : Int) = (b.toNat : Int) := by simp only [IntKind.wrap, IntKind.bits, IntKind.signed]; simp; omega
      have Hor := Lib.hid hor
      have Hwa := Lib.hid hwa
      have Hwb := Lib.hid hwb
      clear hpl hb he hat' hcell0 hg0 hv hx hxI hb8 hor hwa hwb hvv hi
      go_wp2_with fail
      refine wp_region_here (by kernel_rfl) (by kernel_rfl) ?_
      (repeat (first | (apply wpR_pass rfl; (try simp only [Act.put, List.setIfInBounds_toArray, List.set_cons_succ, List.set_cons_zero])) | (apply wpR_val rfl; (focus (intro w1 hR; obtain ⟨hc, hf⟩ := bcellB hR; (try go_simp); (try exact Eq.refl _); done)); (try simp only [Act.put, List.setIfInBounds_toArray, List.set_cons_succ, List.set_cons_zero])) | (apply wpR_call rfl; (focus (intro w1 hR; obtain ⟨hc, hf⟩ := bcellB hR; (try go_simp); (try exact And.intro rfl rfl); done)); (focus (intro w1 hR; first | exact ().at_ (by first | omega | (simp; done) | (simp; omega)) hR)); (try simp only [Act.put, List.setIfInBounds_toArray, List.set_cons_succ, List.set_cons_zero])) | (apply wpR_val_want rfl; (focus (intro w1 hR; obtain ⟨hc, hf⟩ := bcellB hR; (try go_simp); (try exact Eq.refl _); done)); (try simp only [Act.put, List.setIfInBounds_toArray, List.set_cons_succ, List.set_cons_zero])) | (apply wpR_call_want rfl; (focus (intro w1 hR; obtain ⟨hc, hf⟩ := bcellB hR; (try go_simp); (try exact And.intro rfl rfl); done)); (focus (intro w1 hR; first | exact ().at_ (by first | omega | (simp; done) | (simp; omega)) hR)); (try simp only [Act.put, List.setIfInBounds_toArray, List.set_cons_succ, List.set_cons_zero]))))
      refine wpR_nil ?_
      intro w2 hb2
      have hR2 := hR'.below hb2
      have h02 := hR2.c0
      have h12 := hR2.c1
      have hrlt2 := hR2.lt
      have hcell2 := ((bcellB hb2).1 g (o + pl) hgw).trans hcell
      have hgw2 : g < w2.heap.size := Nat.lt_of_lt_of_le hgw hb2.size
      clear h0 h1 hrlt hcell
      go_wp2_with fail
      have hor := Hor.out
      have hwa := Hwa.out
      have hwb := Hwb.out
      refine wp_region_here (by kernel_rfl) (by kernel_rfl) ?_
      (repeat (first | (apply wpR_pass rfl; (try simp only [Act.put, List.setIfInBounds_toArray, List.set_cons_succ, List.set_cons_zero])) | (apply wpR_val rfl; (focus (intro w1 hR; obtain ⟨hc, hf⟩ := bcellB hR; (try go_simp); (try exact Eq.refl _); done)); (try simp only [Act.put, List.setIfInBounds_toArray, List.set_cons_succ, List.set_cons_zero])) | (apply wpR_call rfl; (focus (intro w1 hR; obtain ⟨hc, hf⟩ := bcellB hR; (try go_simp); (try exact And.intro rfl rfl); done)); (focus (intro w1 hR; first | exact ().at_ (by first | omega | (simp; done) | (simp; omega)) hR)); (try simp only [Act.put, List.setIfInBounds_toArray, List.set_cons_succ, List.set_cons_zero])) | (apply wpR_val_want rfl; (focus (intro w1 hR; obtain ⟨hc, hf⟩ := bcellB hR; (try go_simp); (try exact Eq.refl _); done)); (try simp only [Act.put, List.setIfInBounds_toArray, List.set_cons_succ, List.set_cons_zero])) | (apply wpR_call_want rfl; (focus (intro w1 hR; obtain ⟨hc, hf⟩ := bcellB hR; (try go_simp); (try exact And.intro rfl rfl); done)); (focus (intro w1 hR; first | exact ().at_ (by first | omega | (simp; done) | (simp; omega)) hR)); (try simp only [Act.put, List.setIfInBounds_toArray, List.set_cons_succ, List.set_cons_zero]))))
      rw [show (v : Int) * 256 + (b.toNat : Int) = ((v * 256 + b.toNat : Nat) : Int) by omega, ← Hnx.out]
      refine wpR_nil ?_
      intro w3 hb3
      have hR3 := hR2.below hb3
      have hg3 := World.grownBy.trans hg' (below_grown (r := some r) (hb2.trans (hb3.mono hb2.size)))
      have h13 := hR3.c1
      have hrlt3 := hR3.lt
      have hfz : w3.frozen? ⟨r, 1, none⟩ = false := by simp [World.frozen?, show w3.heap[r]? = _ from hR3]
      have hw5 : IntKind.i64.wrap ((pl : Int) + 1) = ((pl + 1 : Nat) : Int) := by rw [IntWalk.i64_in _ ⟨by omega, by omega⟩]; rfl
      clear hor hwa hwb Hor Hwa Hwb h02 h12 hcell2 hrlt2
      go_wp2_with fail
      refine ⟨exU (fun U => ⟨#[.pointer (some ⟨r, 0, none⟩), U 1, .int .u64 0, .bool false, .int .u64 (Wi.unbe ((l.drop at_).take (i + 1)) : Nat), .int .i64 (i + 1 : Nat), U 6, U 7, U 8, U 9, U 10, U 11, U 12, U 13, U 14, U 15, U 16, U 17, U 18, U 19, U 20, U 21, U 22, U 23, U 24, U 25, U 26, U 27, U 28, U 29, U 30, U 31, U 32, U 33, U 34, U 35, U 36, U 37, U 38, U 39, U 40, U 41], []⟩) rfl, ?_, ?_, ?_⟩
      · have := Hpl.out; have := Hple.out; omega
      · rw [show at_ + (i + 1) = pl + 1 by have := Hpl.out; omega]
        exact hR3.set (pl + 1)
      · exact World.grownBy.trans hg3 (setCells_grown w3 r 1 [.int .i64 ((pl + 1 : Nat) : Int)])
  · rintro a w' ⟨⟨U, rfl⟩, hat', hR', hg'⟩
    go_wp2_with fail
    go_ret2
    unfold RLongPost
    rw [if_pos hat']
    exact ⟨rfl, hR', hg'⟩
end Go.Proofs.YtbgfoobcpacfeaaDoor
