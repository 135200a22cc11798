/- Walks and plain laws of the packets and frames, joined from: WRdr3, WRdr4, WRdr5, Mk, WClone, WRdr6, WDecL, WDecP, WDecP2, WDecP3, WLib. -/
import Derived.Test.YtbgfoobcpacfeaaDoorPk5
import Derived.Laws.CopyOwn
/- The program's reader: a digest. -/
namespace Go.Proofs.YtbgfoobcpacfeaaDoor
open Go.RowKit
set_option maxRecDepth 100000
set_option linter.unusedVariables false
set_option linter.unusedSimpArgs false

/-- Of what lay at w only r's and p's blocks may have turned. -/
structure Gr2 (w w' : World) (r p : Nat) : Prop where
  os : w'.os = w.os
  tape : w'.tape = w.tape
  output : w'.output = w.output
  size : w.heap.size ≤ w'.heap.size
  block : ∀ k, k < w.heap.size → k ≠ r → k ≠ p → w'.heap[k]? = w.heap[k]?
section
variable {w w1 w2 : World} {r p : Nat}
theorem Gr2.refl (w : World) (r p : Nat) : Gr2 w w r p := ⟨rfl, rfl, rfl, Nat.le_refl _, fun _ _ _ _ => rfl⟩
theorem Gr2.trans (h : Gr2 w w1 r p) (k : Gr2 w1 w2 r p) : Gr2 w w2 r p :=
  ⟨k.os.trans h.os, k.tape.trans h.tape, k.output.trans h.output, Nat.le_trans h.size k.size, fun i hi h1 h2 => (k.block i (Nat.lt_of_lt_of_le hi h.size) h1 h2).trans (h.block i hi h1 h2)⟩
theorem Gr2.of_r (h : w.grownBy w1 (some r)) : Gr2 w w1 r p := ⟨h.os, h.tape, h.output, h.size, fun k hk h1 _ => h.block k hk (fun e => h1 (by injection e))⟩
theorem Gr2.of_p (h : w.grownBy w1 (some p)) : Gr2 w w1 r p := ⟨h.os, h.tape, h.output, h.size, fun k hk _ h2 => h.block k hk (fun e => h2 (by injection e))⟩
theorem Gr2.below (h : Gr2 w w1 r p) (hb : Below w1.heap.size w1 w2) : Gr2 w w2 r p := h.trans ⟨hb.os, hb.tape, hb.output, hb.size, fun k hk _ _ => hb.block k hk⟩
theorem Gr2.belowB {B : Nat} (h : Gr2 w w1 r p) (hr : B ≤ r) (hp : B ≤ p) (hB : B ≤ w.heap.size) : Below B w w1 := ⟨h.os, h.tape, h.output, h.size, fun k hk => h.block k (by omega) (by omega) (by omega)⟩
end

namespace Wi
/-- What is read, with bytes ahead. -/
def preS (s : List UInt8) : Res (List UInt8) → Res (List UInt8)
  | .ok x r => .ok (s ++ x) r
  | .bad r => .bad r
theorem preS_nil (x : Res (List UInt8)) : preS [] x = x := by cases x <;> rfl
theorem preS_step {s l : List UInt8} {i k : Nat} {b : UInt8} {z : Bool} (hi : i < s.length) (hz : (z && b != 0) = false) : preS (s.take i) (rdSum z (k + 1) (b :: l)) = preS ((s.set i b).take (i + 1)) (rdSum z k l) := by
  have e : (s.set i b).take (i + 1) = s.take i ++ [b] := by
    rw [List.take_add_one, List.getElem?_set_self hi, List.take_set_of_le (Nat.le_refl _)]
    rfl
  rw [e, rdSum]
  simp only [hz, Bool.false_eq_true, if_false]
  cases rdSum z k l <;> simp [preS]
end Wi
theorem set_byte (p : Wi.Pk) (pv : Value) (i : Nat) (b : UInt8) (hi : i < p.sum.length) : setAll (pkL p pv) (10 + i) [bv b] = pkL { p with sum := p.sum.set i b } pv := by
  rw [setAll, setAll, Nat.add_comm]
  show List.set (_ :: _ :: _ :: _ :: _ :: _ :: _ :: _ :: _ :: _ :: (p.sum.map bv ++ [pv])) (i + 10) (bv b) = _
  simp only [pkL, List.set_cons_succ]
  rw [List.set_append_left _ _ (by simpa using hi), List.map_set]

/-- What 'digest' answers. -/
def SumPost (w : World) (r pb : Nat) (bs : Value) (len : Nat) (p : Wi.Pk) (pv : Value) (res : Wi.Res (List UInt8)) (e : Ending) (w' : World) : Prop :=
  match res with
  | .ok s rest => e = .returned (.bool true) ∧ PkAt w' pb { p with sum := s } pv ∧ RdAt w' r bs (len - rest.length) ∧ Gr2 w w' r pb
  | .bad rest => e = .returned (.bool false) ∧ RdAt w' r bs (len - rest.length) ∧ Gr2 w w' r pb
/-- The loop of 'digest', behind i bytes. -/
def SumI (w : World) (r pb : Nat) (bs pv : Value) (l : List UInt8) (z : Bool) (p : Wi.Pk) (at_ : Nat) (i : Nat) (a : Act) (w' : World) : Prop :=
  ∃ s : List UInt8, (∃ U : Nat → Value, a = ⟨#[.pointer (some ⟨r, 0, none⟩), .pointer (some ⟨pb, 0, none⟩), .bool z, U 3, U 4, U 5, .bool false, U 7, .int .i64 i, U 9, U 10, U 11, U 12, U 13, U 14, U 15, U 16, U 17, U 18, U 19, U 20, U 21, U 22, U 23, U 24, U 25, U 26, U 27, U 28, U 29, U 30, U 31, U 32, U 33, U 34, U 35, U 36, U 37, U 38, U 39, U 40, U 41, U 42, U 43, U 44, U 45, U 46, U 47, U 48, U 49, U 50, U 51, U 52, U 53, U 54, U 55, U 56, U 57, U 58, U 59], []⟩) ∧
    s.length = 32 ∧ at_ + i ≤ l.length ∧ Wi.rdSum z 32 (l.drop at_) = Wi.preS (s.take i) (Wi.rdSum z (32 - i) (l.drop (at_ + i))) ∧ PkAt w' pb { p with sum := s } pv ∧ RdAt w' r bs (at_ + i) ∧ Gr2 w w' r pb

set_option maxHeartbeats 8000000 in
theorem digest_calls {w : World} {r pb g o c at_ : Nat} {l : List UInt8} {pv : Value} {p : Wi.Pk} (z : Bool) (hR : RdAt w r (.slice (some ⟨g, o, none⟩) l.length c) at_) (hr : RB w (.slice (some ⟨g, o, none⟩) l.length c) l) (hgr : g ≠ r) (hgp : g ≠ pb) (hpr : pb ≠ r)
    (hP : PkAt w pb p pv) (hp : p.Ok) (hat : at_ ≤ l.length) (hl : l.length ≤ 140737488355328) :
    Calls Tryd.prog 89 #[.pointer (some ⟨r, 0, none⟩), .pointer (some ⟨pb, 0, none⟩), .bool z] w (SumPost w r pb (.slice (some ⟨g, o, none⟩) l.length c) l.length p pv (Wi.rdSum z 32 (l.drop at_))) := by
  go_enter Tryd.func89, Tryd.ntmps89
  go_wp2_with fail
  refine wp_loop_count (SumI w r pb (.slice (some ⟨g, o, none⟩) l.length c) pv l z p at_) 32 ⟨p.sum, exU (fun U => ⟨#[.pointer (some ⟨r, 0, none⟩), .pointer (some ⟨pb, 0, none⟩), .bool z, U 3, U 4, U 5, .bool false, U 7, .int .i64 0, U 9, U 10, U 11, U 12, U 13, U 14, U 15, U 16, U 17, U 18, U 19, U 20, U 21, U 22, U 23, U 24, U 25, U 26, U 27, U 28, U 29, U 30, U 31, U 32, U 33, U 34, U 35, U 36, U 37, U 38, U 39, U 40, U 41, U 42, U 43, U 44, U 45, U 46, U 47, U 48, U 49, U 50, U 51, U 52, U 53, U 54, U 55, U 56, U 57, U 58, U 59], []⟩) rfl, hp.sum, hat, by rw [List.take_zero, Wi.preS_nil]; rfl, hP, hR, Gr2.refl w r pb⟩ ?_ ?_
  · rintro i a w' hi ⟨s, ⟨U, rfl⟩, hs, hat', heq, hP', hR', hg'⟩
    have h0 := hR'.c0
    have h1 := hR'.c1
    have hrlt := hR'.lt
    have hi0 : (0 : Int) ≤ (i : Int) := Int.natCast_nonneg i
    have hi32 : (i : Int) < 32 := by omega
    have hw6 : IntKind.i64.wrap ((i : Int) + 1) = (i : Int) + 1 := IntWalk.i64_in _ ⟨by omega, by omega⟩
    have Hi := Lib.hid hi
    have Hs := Lib.hid hs
    have Hi32 := Lib.hid (show i < s.length by omega)
    obtain ⟨k, hk⟩ : ∃ k, 32 - i = k + 1 := ⟨31 - i, by omega⟩
    have Hk := Lib.hid hk
    have Hk2 := Lib.hid (show k = 32 - (i + 1) by omega)
    have Hq := Lib.hid heq
    clear heq hs hi hk
    by_cases he : at_ + i = l.length
    · have hnil : l.drop (at_ + i) = [] := List.drop_of_length_le (by omega)
      rw [hnil] at Hq
      have Hr := Lib.hid hR'
      rw [he] at h1 Hr
      have hbe : ((l.length : Int) == (l.length : Int)) = true := beq_self_eq_true _
      clear hnil hR'
      go_wp2_with fail
      refine wp_region_hereW (by kernel_rfl) (by kernel_rfl) ?_
      ((iterate 11 (first | (apply WR.val rfl; (focus (intro w1 hR; obtain ⟨hc, hf⟩ := bcellB hR; (try go_simp); (try exact Eq.refl _); done)); (try simp only [Act.put, List.setIfInBounds_toArray, List.set_cons_succ, List.set_cons_zero])) | (apply WR.call rfl; (focus (intro w1 hR; obtain ⟨hc, hf⟩ := bcellB hR; (try go_simp); (try exact And.intro rfl rfl); done)); (focus (intro w1 hR; first | fail)); (try simp only [Act.put, List.setIfInBounds_toArray, List.set_cons_succ, List.set_cons_zero])))); (iterate 14 (refine WR.pass ?_ ?_; (focus kernel_rfl); (try simp only [Act.put, List.setIfInBounds_toArray, List.set_cons_succ, List.set_cons_zero]))); (iterate 1 (first | (apply WR.val rfl; (focus (intro w1 hR; obtain ⟨hc, hf⟩ := bcellB hR; (try go_simp); (try exact Eq.refl _); done)); (try simp only [Act.put, List.setIfInBounds_toArray, List.set_cons_succ, List.set_cons_zero])) | (apply WR.call rfl; (focus (intro w1 hR; obtain ⟨hc, hf⟩ := bcellB hR; (try go_simp); (try exact And.intro rfl rfl); done)); (focus (intro w1 hR; first | fail)); (try simp only [Act.put, List.setIfInBounds_toArray, List.set_cons_succ, List.set_cons_zero])))))
      refine WR.nil ?_
      intro w2 hb2
      go_wp2_with fail
      go_ret
      have hq := Hq.out
      rw [Hk.out, Wi.rdSum, Wi.preS] at hq
      rw [hq]
      exact ⟨rfl, Hr.out.below hb2, hg'.below hb2⟩
    · obtain ⟨b, hb⟩ : ∃ b, l[at_ + i]? = some b := ⟨l[at_ + i], List.getElem?_eq_getElem (by omega)⟩
      have hcell0 := cell_of_rb hr (at_ + i) b hb
      have hg0 : g < w.heap.size := cell_lt hcell0
      have hgw : g < w'.heap.size := Nat.lt_of_lt_of_le hg0 hg'.size
      have hcell : w'.cell? ⟨g, o + (at_ + i), none⟩ = some (bv b) := (World.cell?_of_block (hg'.block g hg0 hgr hgp)).trans hcell0
      have hbe : (((at_ + i : Nat) : Int) == (l.length : Int)) = false := by
        have : ¬ ((at_ + i : Nat) : Int) = (l.length : Int) := by exact_mod_cast he
        simpa using this
      have hltI : ((at_ + i : Nat) : Int) < (l.length : Int) := by exact_mod_cast (Nat.lt_of_le_of_ne hat' he)
      have h0I : (0 : Int) ≤ ((at_ + i : Nat) : Int) := Int.natCast_nonneg _
      obtain ⟨pl, hpl⟩ : ∃ pl, pl = at_ + i := ⟨_, rfl⟩
      rw [← hpl] at hcell h1 hbe hltI h0I hR' he hat' Hq hb
      have Hpl := Lib.hid hpl
      have Hple := Lib.hid hat'
      have Hdrop := Lib.hid (show l.drop pl = b :: l.drop (pl + 1) from by
        rw [List.drop_eq_getElem_cons (by omega)]
        rw [List.getElem?_eq_getElem (by omega)] at hb
        injection hb with hb'
        rw [hb'])
      clear hpl hb he hat' hcell0 hg0
      cases z
      · go_wp2_with fail
        refine wp_region_hereW (by kernel_rfl) (by kernel_rfl) ?_
        ((iterate 11 (first | (apply WR.val rfl; (focus (intro w1 hR; obtain ⟨hc, hf⟩ := bcellB hR; (try go_simp); (try exact Eq.refl _); done)); (try simp only [Act.put, List.setIfInBounds_toArray, List.set_cons_succ, List.set_cons_zero])) | (apply WR.call rfl; (focus (intro w1 hR; obtain ⟨hc, hf⟩ := bcellB hR; (try go_simp); (try exact And.intro rfl rfl); done)); (focus (intro w1 hR; first | fail)); (try simp only [Act.put, List.setIfInBounds_toArray, List.set_cons_succ, List.set_cons_zero])))); (iterate 2 (first | (apply WR.val_want; (focus kernel_rfl); (focus (intro w1 hR; obtain ⟨hc, hf⟩ := bcellB hR; (try go_simp); (try exact Eq.refl _); done)); (try simp only [Act.put, List.setIfInBounds_toArray, List.set_cons_succ, List.set_cons_zero])) | (apply WR.call_want; (focus kernel_rfl); (focus (intro w1 hR; obtain ⟨hc, hf⟩ := bcellB hR; (try go_simp); (try exact And.intro rfl rfl); done)); (focus (intro w1 hR; first | fail)); (try simp only [Act.put, List.setIfInBounds_toArray, List.set_cons_succ, List.set_cons_zero])))); (iterate 11 (refine WR.pass ?_ ?_; (focus kernel_rfl); (try simp only [Act.put, List.setIfInBounds_toArray, List.set_cons_succ, List.set_cons_zero]))); (iterate 1 (first | (apply WR.val_want; (focus kernel_rfl); (focus (intro w1 hR; obtain ⟨hc, hf⟩ := bcellB hR; (try go_simp); (try exact Eq.refl _); done)); (try simp only [Act.put, List.setIfInBounds_toArray, List.set_cons_succ, List.set_cons_zero])) | (apply WR.call_want; (focus kernel_rfl); (focus (intro w1 hR; obtain ⟨hc, hf⟩ := bcellB hR; (try go_simp); (try exact And.intro rfl rfl); done)); (focus (intro w1 hR; first | fail)); (try simp only [Act.put, List.setIfInBounds_toArray, List.set_cons_succ, List.set_cons_zero])))); (iterate 1 (first | (apply WR.val rfl; (focus (intro w1 hR; obtain ⟨hc, hf⟩ := bcellB hR; (try go_simp); (try exact Eq.refl _); done)); (try simp only [Act.put, List.setIfInBounds_toArray, List.set_cons_succ, List.set_cons_zero])) | (apply WR.call rfl; (focus (intro w1 hR; obtain ⟨hc, hf⟩ := bcellB hR; (try go_simp); (try exact And.intro rfl rfl); done)); (focus (intro w1 hR; first | fail)); (try simp only [Act.put, List.setIfInBounds_toArray, List.set_cons_succ, List.set_cons_zero])))))
        refine WR.nil ?_
        intro w2 hb2
        have hR2 := hR'.below hb2
        have hP2 := hP'.below hb2
        have hg2 := hg'.below hb2
        have h02 := hR2.c0
        have h12 := hR2.c1
        have hrlt2 := hR2.lt
        have hplt2 := hP2.lt
        have hcell2 := ((bcellB hb2).1 g (o + pl) hgw).trans hcell
        have hgw2 : g < w2.heap.size := Nat.lt_of_lt_of_le hgw hb2.size
        clear h0 h1 hrlt hcell hb2 hR' hP' hg'
        go_wp2_with fail
        refine wp_region_R_tail (Below w2.heap.size w2) 15 (by kernel_rfl) (by kernel_rfl) ⟨rfl, rfl, rfl, Nat.le_refl _, fun _ _ => rfl⟩ ?_
        (repeat (first | (apply wpR_pass rfl; (try simp only [Act.put, List.setIfInBounds_toArray, List.set_cons_succ, List.set_cons_zero])) | (apply wpR_val rfl; (focus (intro w1 hR; obtain ⟨hc, hf⟩ := bcellB hR; (try go_simp); (try exact Eq.refl _); done)); (try simp only [Act.put, List.setIfInBounds_toArray, List.set_cons_succ, List.set_cons_zero])) | (apply wpR_call rfl; (focus (intro w1 hR; obtain ⟨hc, hf⟩ := bcellB hR; (try go_simp); (try exact And.intro rfl rfl); done)); (focus (intro w1 hR; first | exact ().at_ (by first | omega | (simp; done) | (simp; omega)) hR)); (try simp only [Act.put, List.setIfInBounds_toArray, List.set_cons_succ, List.set_cons_zero])) | (apply wpR_val_want rfl; (focus (intro w1 hR; obtain ⟨hc, hf⟩ := bcellB hR; (try go_simp); (try exact Eq.refl _); done)); (try simp only [Act.put, List.setIfInBounds_toArray, List.set_cons_succ, List.set_cons_zero])) | (apply wpR_call_want rfl; (focus (intro w1 hR; obtain ⟨hc, hf⟩ := bcellB hR; (try go_simp); (try exact And.intro rfl rfl); done)); (focus (intro w1 hR; first | exact ().at_ (by first | omega | (simp; done) | (simp; omega)) hR)); (try simp only [Act.put, List.setIfInBounds_toArray, List.set_cons_succ, List.set_cons_zero]))))
        refine wpR_nil ?_
        intro w3 hb3
        have hR3 := hR2.below hb3
        have hP3 := hP2.below hb3
        have hst : setAll (pkL { p with sum := s } pv) (10 + i) [bv b] = pkL { p with sum := s.set i b } pv := set_byte { p with sum := s } pv i b Hi32.out
        refine wpList_store_cells pb (10 + i) [bv b] (pkL { p with sum := s } pv) rfl rfl rfl rfl hP3 (by rw [show (pkL { p with sum := s } pv).length = 43 by simp [pkL, Hs.out]]; have := Hi.out; simp; omega) (by kernel_rfl) (by intro u hu; simp at hu; subst hu; rfl) ?_
        refine wpList_nil ?_
        have hP4 : PkAt (w3.setCells pb (10 + i) [bv b]) pb { p with sum := s.set i b } pv := hP3.store (10 + i) [bv b] _ pv hst
        have hR4 : RdAt (w3.setCells pb (10 + i) [bv b]) r (.slice (some ⟨g, o, none⟩) l.length c) pl := blk_grown hR3 (setCells_grown w3 pb (10 + i) [bv b]) (fun e => hpr (by injection e))
        have hg4 : Gr2 w (w3.setCells pb (10 + i) [bv b]) r pb := (hg2.below hb3).trans (Gr2.of_p (setCells_grown w3 pb (10 + i) [bv b]))
        generalize w3.setCells pb (10 + i) [bv b] = w4 at *
        have h04 := hR4.c0
        have h14 := hR4.c1
        have hrlt4 := hR4.lt
        have hfz : w4.frozen? ⟨r, 1, none⟩ = false := by simp [World.frozen?, show w4.heap[r]? = _ from hR4]
        have hw5 : IntKind.i64.wrap ((pl : Int) + 1) = ((pl + 1 : Nat) : Int) := by rw [IntWalk.i64_in _ ⟨by omega, by omega⟩]; rfl
        clear hst hb3 hR3 hP3 hP2 hR2 h02 h12 hrlt2 hcell2
        go_wp2_with fail
        refine ⟨s.set i b, exU (fun U => ⟨#[.pointer (some ⟨r, 0, none⟩), .pointer (some ⟨pb, 0, none⟩), .bool false, U 3, U 4, U 5, .bool false, U 7, .int .i64 (i + 1 : Nat), U 9, U 10, U 11, U 12, U 13, U 14, U 15, U 16, U 17, U 18, U 19, U 20, U 21, U 22, U 23, U 24, U 25, U 26, U 27, U 28, U 29, U 30, U 31, U 32, U 33, U 34, U 35, U 36, U 37, U 38, U 39, U 40, U 41, U 42, U 43, U 44, U 45, U 46, U 47, U 48, U 49, U 50, U 51, U 52, U 53, U 54, U 55, U 56, U 57, U 58, U 59], []⟩) rfl, by rw [List.length_set]; exact Hs.out, ?_, ?_, ?_, ?_, ?_⟩
        · have := Hpl.out; omega
        · have hq := Hq.out
          rw [Hk.out, Hdrop.out, Wi.preS_step Hi32.out (by rfl)] at hq
          rw [hq, ← Hk2.out, show at_ + (i + 1) = pl + 1 by have := Hpl.out; omega]
        · exact blk_grown hP4 (setCells_grown w4 r 1 [.int .i64 ((pl + 1 : Nat) : Int)]) (fun e => hpr (by injection e with e; exact e.symm))
        · rw [show at_ + (i + 1) = pl + 1 by have := Hpl.out; omega]
          exact hR4.set (pl + 1)
        · exact hg4.trans (Gr2.of_r (setCells_grown w4 r 1 [.int .i64 ((pl + 1 : Nat) : Int)]))
      · cases hz : ((b.toNat : Int) != 0)
        · have hb0 : (b != 0) = false := by
              have h0 : b.toNat = 0 := by simpa using hz
              have : b = 0 := by
                apply UInt8.toNat_inj.1
                rw [h0]; rfl
              subst this; rfl
          go_wp2_with fail
          refine wp_region_hereW (by kernel_rfl) (by kernel_rfl) ?_
          ((iterate 11 (first | (apply WR.val rfl; (focus (intro w1 hR; obtain ⟨hc, hf⟩ := bcellB hR; (try go_simp); (try exact Eq.refl _); done)); (try simp only [Act.put, List.setIfInBounds_toArray, List.set_cons_succ, List.set_cons_zero])) | (apply WR.call rfl; (focus (intro w1 hR; obtain ⟨hc, hf⟩ := bcellB hR; (try go_simp); (try exact And.intro rfl rfl); done)); (focus (intro w1 hR; first | fail)); (try simp only [Act.put, List.setIfInBounds_toArray, List.set_cons_succ, List.set_cons_zero])))); (iterate 14 (first | (apply WR.val_want; (focus kernel_rfl); (focus (intro w1 hR; obtain ⟨hc, hf⟩ := bcellB hR; (try go_simp); (try exact Eq.refl _); done)); (try simp only [Act.put, List.setIfInBounds_toArray, List.set_cons_succ, List.set_cons_zero])) | (apply WR.call_want; (focus kernel_rfl); (focus (intro w1 hR; obtain ⟨hc, hf⟩ := bcellB hR; (try go_simp); (try exact And.intro rfl rfl); done)); (focus (intro w1 hR; first | fail)); (try simp only [Act.put, List.setIfInBounds_toArray, List.set_cons_succ, List.set_cons_zero])))); (iterate 1 (first | (apply WR.val rfl; (focus (intro w1 hR; obtain ⟨hc, hf⟩ := bcellB hR; (try go_simp); (try exact Eq.refl _); done)); (try simp only [Act.put, List.setIfInBounds_toArray, List.set_cons_succ, List.set_cons_zero])) | (apply WR.call rfl; (focus (intro w1 hR; obtain ⟨hc, hf⟩ := bcellB hR; (try go_simp); (try exact And.intro rfl rfl); done)); (focus (intro w1 hR; first | fail)); (try simp only [Act.put, List.setIfInBounds_toArray, List.set_cons_succ, List.set_cons_zero])))))
          refine WR.nil ?_
          intro w2 hb2
          have hR2 := hR'.below hb2
          have hP2 := hP'.below hb2
          have hg2 := hg'.below hb2
          have h02 := hR2.c0
          have h12 := hR2.c1
          have hrlt2 := hR2.lt
          have hplt2 := hP2.lt
          have hcell2 := ((bcellB hb2).1 g (o + pl) hgw).trans hcell
          have hgw2 : g < w2.heap.size := Nat.lt_of_lt_of_le hgw hb2.size
          clear h0 h1 hrlt hcell hb2 hR' hP' hg'
          go_wp2_with fail
          refine wp_region_R_tail (Below w2.heap.size w2) 15 (by kernel_rfl) (by kernel_rfl) ⟨rfl, rfl, rfl, Nat.le_refl _, fun _ _ => rfl⟩ ?_
          (repeat (first | (apply wpR_pass rfl; (try simp only [Act.put, List.setIfInBounds_toArray, List.set_cons_succ, List.set_cons_zero])) | (apply wpR_val rfl; (focus (intro w1 hR; obtain ⟨hc, hf⟩ := bcellB hR; (try go_simp); (try exact Eq.refl _); done)); (try simp only [Act.put, List.setIfInBounds_toArray, List.set_cons_succ, List.set_cons_zero])) | (apply wpR_call rfl; (focus (intro w1 hR; obtain ⟨hc, hf⟩ := bcellB hR; (try go_simp); (try exact And.intro rfl rfl); done)); (focus (intro w1 hR; first | exact ().at_ (by first | omega | (simp; done) | (simp; omega)) hR)); (try simp only [Act.put, List.setIfInBounds_toArray, List.set_cons_succ, List.set_cons_zero])) | (apply wpR_val_want rfl; (focus (intro w1 hR; obtain ⟨hc, hf⟩ := bcellB hR; (try go_simp); (try exact Eq.refl _); done)); (try simp only [Act.put, List.setIfInBounds_toArray, List.set_cons_succ, List.set_cons_zero])) | (apply wpR_call_want rfl; (focus (intro w1 hR; obtain ⟨hc, hf⟩ := bcellB hR; (try go_simp); (try exact And.intro rfl rfl); done)); (focus (intro w1 hR; first | exact ().at_ (by first | omega | (simp; done) | (simp; omega)) hR)); (try simp only [Act.put, List.setIfInBounds_toArray, List.set_cons_succ, List.set_cons_zero]))))
          refine wpR_nil ?_
          intro w3 hb3
          have hR3 := hR2.below hb3
          have hP3 := hP2.below hb3
          have hst : setAll (pkL { p with sum := s } pv) (10 + i) [bv b] = pkL { p with sum := s.set i b } pv := set_byte { p with sum := s } pv i b Hi32.out
          refine wpList_store_cells pb (10 + i) [bv b] (pkL { p with sum := s } pv) rfl rfl rfl rfl hP3 (by rw [show (pkL { p with sum := s } pv).length = 43 by simp [pkL, Hs.out]]; have := Hi.out; simp; omega) (by kernel_rfl) (by intro u hu; simp at hu; subst hu; rfl) ?_
          refine wpList_nil ?_
          have hP4 : PkAt (w3.setCells pb (10 + i) [bv b]) pb { p with sum := s.set i b } pv := hP3.store (10 + i) [bv b] _ pv hst
          have hR4 : RdAt (w3.setCells pb (10 + i) [bv b]) r (.slice (some ⟨g, o, none⟩) l.length c) pl := blk_grown hR3 (setCells_grown w3 pb (10 + i) [bv b]) (fun e => hpr (by injection e))
          have hg4 : Gr2 w (w3.setCells pb (10 + i) [bv b]) r pb := (hg2.below hb3).trans (Gr2.of_p (setCells_grown w3 pb (10 + i) [bv b]))
          generalize w3.setCells pb (10 + i) [bv b] = w4 at *
          have h04 := hR4.c0
          have h14 := hR4.c1
          have hrlt4 := hR4.lt
          have hfz : w4.frozen? ⟨r, 1, none⟩ = false := by simp [World.frozen?, show w4.heap[r]? = _ from hR4]
          have hw5 : IntKind.i64.wrap ((pl : Int) + 1) = ((pl + 1 : Nat) : Int) := by rw [IntWalk.i64_in _ ⟨by omega, by omega⟩]; rfl
          clear hst hb3 hR3 hP3 hP2 hR2 h02 h12 hrlt2 hcell2
          go_wp2_with fail
          refine ⟨s.set i b, exU (fun U => ⟨#[.pointer (some ⟨r, 0, none⟩), .pointer (some ⟨pb, 0, none⟩), .bool true, U 3, U 4, U 5, .bool false, U 7, .int .i64 (i + 1 : Nat), U 9, U 10, U 11, U 12, U 13, U 14, U 15, U 16, U 17, U 18, U 19, U 20, U 21, U 22, U 23, U 24, U 25, U 26, U 27, U 28, U 29, U 30, U 31, U 32, U 33, U 34, U 35, U 36, U 37, U 38, U 39, U 40, U 41, U 42, U 43, U 44, U 45, U 46, U 47, U 48, U 49, U 50, U 51, U 52, U 53, U 54, U 55, U 56, U 57, U 58, U 59], []⟩) rfl, by rw [List.length_set]; exact Hs.out, ?_, ?_, ?_, ?_, ?_⟩
          · have := Hpl.out; omega
          · have hq := Hq.out
            rw [Hk.out, Hdrop.out, Wi.preS_step Hi32.out (by rw [hb0]; rfl)] at hq
            rw [hq, ← Hk2.out, show at_ + (i + 1) = pl + 1 by have := Hpl.out; omega]
          · exact blk_grown hP4 (setCells_grown w4 r 1 [.int .i64 ((pl + 1 : Nat) : Int)]) (fun e => hpr (by injection e with e; exact e.symm))
          · rw [show at_ + (i + 1) = pl + 1 by have := Hpl.out; omega]
            exact hR4.set (pl + 1)
          · exact hg4.trans (Gr2.of_r (setCells_grown w4 r 1 [.int .i64 ((pl + 1 : Nat) : Int)]))
        · go_wp2_with fail
          refine wp_region_hereW (by kernel_rfl) (by kernel_rfl) ?_
          ((iterate 11 (first | (apply WR.val rfl; (focus (intro w1 hR; obtain ⟨hc, hf⟩ := bcellB hR; (try go_simp); (try exact Eq.refl _); done)); (try simp only [Act.put, List.setIfInBounds_toArray, List.set_cons_succ, List.set_cons_zero])) | (apply WR.call rfl; (focus (intro w1 hR; obtain ⟨hc, hf⟩ := bcellB hR; (try go_simp); (try exact And.intro rfl rfl); done)); (focus (intro w1 hR; first | fail)); (try simp only [Act.put, List.setIfInBounds_toArray, List.set_cons_succ, List.set_cons_zero])))); (iterate 14 (first | (apply WR.val_want; (focus kernel_rfl); (focus (intro w1 hR; obtain ⟨hc, hf⟩ := bcellB hR; (try go_simp); (try exact Eq.refl _); done)); (try simp only [Act.put, List.setIfInBounds_toArray, List.set_cons_succ, List.set_cons_zero])) | (apply WR.call_want; (focus kernel_rfl); (focus (intro w1 hR; obtain ⟨hc, hf⟩ := bcellB hR; (try go_simp); (try exact And.intro rfl rfl); done)); (focus (intro w1 hR; first | fail)); (try simp only [Act.put, List.setIfInBounds_toArray, List.set_cons_succ, List.set_cons_zero])))); (iterate 1 (first | (apply WR.val rfl; (focus (intro w1 hR; obtain ⟨hc, hf⟩ := bcellB hR; (try go_simp); (try exact Eq.refl _); done)); (try simp only [Act.put, List.setIfInBounds_toArray, List.set_cons_succ, List.set_cons_zero])) | (apply WR.call rfl; (focus (intro w1 hR; obtain ⟨hc, hf⟩ := bcellB hR; (try go_simp); (try exact And.intro rfl rfl); done)); (focus (intro w1 hR; first | fail)); (try simp only [Act.put, List.setIfInBounds_toArray, List.set_cons_succ, List.set_cons_zero])))))
          refine WR.nil ?_
          intro w2 hb2
          go_wp2_with fail
          go_ret
          have hq := Hq.out
          have hb0 : (b != 0) = true := by
            cases h : (b != 0)
            · have : b = 0 := by simpa using h
              subst this
              simp at hz
            · rfl
          rw [Hk.out, Hdrop.out, Wi.rdSum] at hq
          simp only [hb0, Bool.and_self, if_true, Wi.preS] at hq
          rw [hq]
          refine ⟨rfl, ?_, hg'.below hb2⟩
          have : l.length - (b :: l.drop (pl + 1)).length = pl := by
            have := congrArg List.length Hdrop.out
            rw [← this, List.length_drop]
            have := Hple.out
            omega
          simp only [this]
          exact hR'.below hb2
  · rintro a w' ⟨s, ⟨U, rfl⟩, hs, hat', heq, hP', hR', hg'⟩
    rw [Nat.sub_self, Wi.rdSum, Wi.preS, List.take_of_length_le (by omega), List.append_nil] at heq
    have Hq := Lib.hid heq
    have Hs := Lib.hid hs
    clear heq hs
    go_wp2_with fail
    go_ret
    rw [Hq.out]
    refine ⟨rfl, hP', ?_, hg'⟩
    rw [List.length_drop, show l.length - (l.length - (at_ + 32)) = at_ + 32 by omega]
    exact hR'
end Go.Proofs.YtbgfoobcpacfeaaDoor

/- The program's reader: a field that is a number. -/
namespace Go.Proofs.YtbgfoobcpacfeaaDoor
open Go.RowKit
set_option maxRecDepth 100000
set_option linter.unusedVariables false
set_option linter.unusedSimpArgs false

theorem rdNum_lt (s : List (Nat × Nat)) : ∀ (k v : Nat) (l : List UInt8) (x : Nat) (r : List UInt8), Wi.rdNum s k v l = .ok x r → x < (v + 1) * 256 ^ k
  | 0, v, l, x, r, h => by
    simp only [Wi.rdNum, Wi.Res.ok.injEq] at h
    omega
  | k + 1, v, [], x, r, h => by simp [Wi.rdNum] at h
  | k + 1, v, c :: l, x, r, h => by
    rw [Wi.rdNum] at h
    split at h
    · have h1 := rdNum_lt s k _ l x r h
      have h2 := c.toNat_lt
      refine Nat.lt_of_lt_of_le h1 ?_
      rw [Nat.pow_succ, Nat.mul_comm (256 ^ k) 256, ← Nat.mul_assoc]
      exact Nat.mul_le_mul_right _ (by omega)
    · cases h

/-- What 'read' answers. -/
def ReadPost (B : Nat) (w : World) (r pb : Nat) (bs : Value) (len : Nat) (res : Wi.Res Wi.Pk) (e : Ending) (w' : World) : Prop :=
  match res with
  | .ok q rest => e = .returned (.bool true) ∧ (∃ pv, PkAt w' pb q pv ∧ OB B w' pv q.data ∧ pv.ownBlock ≠ some r ∧ pv.ownBlock ≠ some pb) ∧ RdAt w' r bs (len - rest.length) ∧ Gr2 w w' r pb
  | .bad rest => e = .returned (.bool false) ∧ RdAt w' r bs (len - rest.length) ∧ Gr2 w w' r pb
theorem OB.gr2 {B : Nat} {w w' : World} {v : Value} {l : List UInt8} {r p : Nat} (h : OB B w v l) (hg : Gr2 w w' r p) (hr : v.ownBlock ≠ some r) (hp : v.ownBlock ≠ some p) : OB B w' v l :=
  h.at_ fun g e => hg.block g (h.lt g e).2 (fun e' => hr (by rw [e, e'])) (fun e' => hp (by rw [e, e']))

theorem Wi.Pk.setNum_data (p : Wi.Pk) (k : Int) (x : Nat) : (p.setNum k x).data = p.data := by
  unfold Wi.Pk.setNum
  repeat' split
  all_goals rfl
theorem NumPost.form {w w' : World} {r len n : Nat} {bs : Value} {s : List (Nat × Nat)} {l : List UInt8} {e : Ending} (h : NumPost w r bs len (Wi.rdNum s n 0 l) e w') : ∃ (x : Nat) (t : Bool) (rest : List UInt8), e = .returned (.tuple #[.int .u32 x, .bool t]) ∧ RdAt w' r bs (len - rest.length) ∧ w.grownBy w' (some r) ∧ x < 256 ^ n ∧ Wi.rdNum s n 0 l = (if t then .ok x rest else .bad rest) := by
  cases hq : Wi.rdNum s n 0 l with
  | ok x rest =>
    rw [hq] at h
    obtain ⟨h1, h2, h3⟩ := h
    have hx := rdNum_lt s n 0 l x rest hq
    exact ⟨x, true, rest, h1, h2, h3, by simpa using hx, rfl⟩
  | bad rest =>
    rw [hq] at h
    obtain ⟨h1, h2, h3⟩ := h
    exact ⟨0, false, rest, h1, h2, h3, Nat.pow_pos (by decide), rfl⟩

set_option maxHeartbeats 8000000 in
theorem read_num {w : World} {B r pb g o c at_ : Nat} {l : List UInt8} {pv : Value} {p : Wi.Pk} (k : Int) (f : FuncId) (hf : f ∈ Wi.mays) (hR : RdAt w r (.slice (some ⟨g, o, none⟩) l.length c) at_) (hr : RB w (.slice (some ⟨g, o, none⟩) l.length c) l) (hgr : g ≠ r) (hgp : g ≠ pb) (hpr : pb ≠ r)
    (hP : PkAt w pb p pv) (hp : p.Ok) (hS : Szs w) (hat : at_ ≤ l.length) (hl : l.length ≤ 140737488355328) (hd : OB B w pv p.data) (hvr : pv.ownBlock ≠ some r) (hvp : pv.ownBlock ≠ some pb) :
    Calls Tryd.prog 47 #[.pointer (some ⟨r, 0, none⟩), fdV (.num k f), .pointer (some ⟨pb, 0, none⟩)] w (ReadPost B w r pb (.slice (some ⟨g, o, none⟩) l.length c) l.length (Wi.rdF p (.num k f) (l.drop at_))) := by
  have ta := fun w => ta_num w k f
  generalize fdV (.num k f) = fv at *
  have hent : ∀ args w, (callFunc f args).run Tryd.prog w = .ok (.enter f args) w := mays_enter f hf
  go_enter Tryd.func47, Tryd.ntmps47
  go_wp2_with fail
  have hb0 := below_alloc1 w (.cells #[.int .i64 k, fnV f] 107)
  refine (may_calls f hf (hP.below hb0) hp (hS.below hb0)).mono ?_
  rintro e w1 ⟨sv, rfl, hs1, hsv, hb1⟩
  have hb01 := hb0.trans (hb1.mono hb0.size)
  have hR1 := hR.below hb01
  have hr1 := hr.below hb01
  have hP1 := hP.below hb01
  have hrl := hR.lt
  have hsr : sv.ownBlock ≠ some r := fun e => by have := hsv r e; have := hb0.size; omega
  have hplt := hP.lt
  have hbx1 : w1.heap[w.heap.size]? = some (.cells #[.int .i64 k, fnV f] 107 (0, 0)) := blk_below (heap_new w _ _ rfl) hb1
  go_wp2_with fail
  refine (number_calls (n := 4) hR1 hr1 hgr hs1 hsr hat hl (by decide)).mono ?_
  intro e w2 hpost
  obtain ⟨x, t, rest, rfl, hR2, hg2, hx, hq⟩ := hpost.form
  have hP2 := hP1.grown hg2 (fun e => hpr (by injection e with e; exact e.symm))
  have hbx2 := blk_grown hbx1 hg2 (fun e => by injection e with e; omega)
  have hc0 := has_cell hbx2 0
  have hw02 : w.heap.size < w2.heap.size := heap_lt hbx2
  go_wp2_with fail
  refine (at_calls _ pb k).out.mono ?_
  rintro e w3 ⟨rfl, hb3⟩
  have hR3 := hR2.below hb3
  have hP3 := hP2.below hb3
  have hc3 := hP3.num k
  have hplt3 := hP3.lt
  have hfz : w3.frozen? ⟨pb, offOf k, none⟩ = false := by simp [World.frozen?, show w3.heap[pb]? = _ from hP3]
  go_wp2_with fail
  go_ret
  have hP4 : PkAt (w3.setCells pb (offOf k) [.int .u32 x]) pb (p.setNum k x) pv := hP3.store (offOf k) [.int .u32 x] _ pv (set_num p pv k x)
  have hgs := setCells_grown w3 pb (offOf k) [.int .u32 x]
  have hg4 : Gr2 w (w3.setCells pb (offOf k) [.int .u32 x]) r pb := ((((Gr2.refl w r pb).below hb01).trans (Gr2.of_r hg2)).below hb3).trans (Gr2.of_p hgs)
  have hR4 : RdAt (w3.setCells pb (offOf k) [.int .u32 x]) r (.slice (some ⟨g, o, none⟩) l.length c) (l.length - rest.length) := blk_grown hR3 hgs (fun e => hpr (by injection e))
  have hx32 : x < 4294967296 := by simpa using hx
  have hF : Wi.rdF p (.num k f) (l.drop at_) = if t then .ok (p.setNum k x) rest else .bad rest := by
    simp only [Wi.rdF, hq]
    cases t <;> rfl
  rw [hF]
  cases t
  · exact ⟨rfl, hR4, hg4⟩
  · exact ⟨rfl, ⟨pv, hP4, (by
      rw [Wi.Pk.setNum_data]
      exact hd.gr2 hg4 hvr hvp), hvr, hvp⟩, hR4, hg4⟩
end Go.Proofs.YtbgfoobcpacfeaaDoor

/- The program's reader: the identifiers, a digest. -/
namespace Go.Proofs.YtbgfoobcpacfeaaDoor
open Go.RowKit
set_option maxRecDepth 100000
set_option linter.unusedVariables false
set_option linter.unusedSimpArgs false

set_option maxHeartbeats 8000000 in
theorem read_gens {w : World} {B r pb g o c at_ : Nat} {l : List UInt8} {pv : Value} {p : Wi.Pk} (hR : RdAt w r (.slice (some ⟨g, o, none⟩) l.length c) at_) (hr : RB w (.slice (some ⟨g, o, none⟩) l.length c) l) (hgr : g ≠ r) (hgp : g ≠ pb) (hpr : pb ≠ r)
    (hP : PkAt w pb p pv) (hp : p.Ok) (hat : at_ ≤ l.length) (hc : l.length ≤ c) (hcm : c ≤ maxLen) (hl : l.length ≤ 140737488355328) (hd : OB B w pv p.data) (hvr : pv.ownBlock ≠ some r) (hvp : pv.ownBlock ≠ some pb) :
    Calls Tryd.prog 47 #[.pointer (some ⟨r, 0, none⟩), fdV .gens, .pointer (some ⟨pb, 0, none⟩)] w (ReadPost B w r pb (.slice (some ⟨g, o, none⟩) l.length c) l.length (Wi.rdF p .gens (l.drop at_))) := by
  have ta := ta_gens_n
  have ta2 := ta_gens
  generalize fdV .gens = fv at *
  generalize zv 107 = z1 at *
  have hb0 := below_alloc1 w (.cells #[] 117)
  have hR1 := hR.below hb0
  have hr1 := hr.below hb0
  have hP1 := hP.below hb0
  by_cases hn : l.length - at_ < 32
  · have hF : Wi.rdF p .gens (l.drop at_) = .bad [] := by
      simp only [Wi.rdF, List.length_drop]
      rw [if_pos hn]
    rw [hF]
    go_enter Tryd.func47, Tryd.ntmps47
    go_wp2_with fail
    refine (some_short (n := 32) hR1 hat hl hn (by decide)).mono ?_
    rintro e w2 ⟨rfl, hR2, hg2⟩
    go_wp2_with fail
    go_ret
    exact ⟨rfl, hR2, ((Gr2.refl w r pb).below hb0).trans (Gr2.of_r hg2)⟩
  · have hF : Wi.rdF p .gens (l.drop at_) = .ok { p with g1 := Wi.unbe ((l.drop at_).take 8), g2 := Wi.unbe ((l.drop (at_ + 8)).take 8), g3 := Wi.unbe ((l.drop (at_ + 16)).take 8), g4 := Wi.unbe ((l.drop (at_ + 24)).take 8) } (l.drop (at_ + 32)) := by
      simp only [Wi.rdF, List.length_drop, List.drop_drop]
      rw [if_neg hn]
    rw [hF]
    clear hF
    have hn32 : at_ + 32 ≤ l.length := by omega
    have hmx : maxLen = 9223372036854775807 := rfl
    go_enter Tryd.func47, Tryd.ntmps47
    go_wp2_with fail
    refine (some_long (n := 32) hR1 (by decide) hn32 hc hcm hl).mono ?_
    rintro e w2 ⟨rfl, hR2, hg2⟩
    have hr2 := hr1.grown hg2 (fun _ g' e e' => hgr (by cases e; injection e' with e'; exact e'.symm))
    have hP2 := hP1.grown hg2 (fun e => hpr (by injection e with e; exact e.symm))
    have hplt2 := hP2.lt
    have hs0 := hr2.sub at_ 8 (c - at_) (by omega) (by omega) (by omega)
    have hs1 := hr2.sub (at_ + 8) 8 (c - at_ - 8) (by omega) (by omega) (by omega)
    have hs2 := hr2.sub (at_ + 16) 8 (c - at_ - 16) (by omega) (by omega) (by omega)
    have hs3 := hr2.sub (at_ + 24) 8 (c - at_ - 24) (by omega) (by omega) (by omega)
    rw [← Nat.add_assoc] at hs1 hs2 hs3
    obtain ⟨cc, hcc⟩ : ∃ cc, cc = c - at_ := ⟨_, rfl⟩
    rw [← hcc] at hs0 hs1 hs2 hs3 ⊢
    have hc32 : 32 ≤ cc := by omega
    clear hcc
    have c8 : (8 : Int) ≤ (cc : Int) := by omega
    have c16 : (16 : Int) ≤ (cc : Int) := by omega
    have c24 : (24 : Int) ≤ (cc : Int) := by omega
    have c32 : (32 : Int) ≤ (cc : Int) := by omega
    have n0 : ¬ cc = 0 := by omega
    have n8 : ¬ cc = 8 := by omega
    have n16 : ¬ cc = 16 := by omega
    have n24 : ¬ cc = 24 := by omega
    go_wp2_with fail
    have hl0 : ((l.drop at_).take 8).length ≤ 8 := by rw [List.length_take]; omega
    have hl1 : ((l.drop (at_ + 8)).take 8).length ≤ 8 := by rw [List.length_take]; omega
    have hl2 : ((l.drop (at_ + 16)).take 8).length ≤ 8 := by rw [List.length_take]; omega
    have hl3 : ((l.drop (at_ + 24)).take 8).length ≤ 8 := by rw [List.length_take]; omega
    refine wp_region_R_tail (Below w2.heap.size w2) 16 (by kernel_rfl) (by kernel_rfl) ⟨rfl, rfl, rfl, Nat.le_refl _, fun _ _ => rfl⟩ ?_
    (iterate 4 (first | (apply wpR_pass rfl; (try simp only [Act.put, List.setIfInBounds_toArray, List.set_cons_succ, List.set_cons_zero])) | (apply wpR_val rfl; (focus (intro w1 hR; obtain ⟨hc, hf⟩ := bcellB hR; (try go_simp); (try exact Eq.refl _); done)); (try simp only [Act.put, List.setIfInBounds_toArray, List.set_cons_succ, List.set_cons_zero])) | (apply wpR_call rfl; (focus (intro w1 hR; obtain ⟨hc, hf⟩ := bcellB hR; (try go_simp); (try exact And.intro rfl rfl); done)); (focus (intro w1 hR; first | exact (big_calls (hs0.below hR) hl0).at_ (by first | omega | (simp; done) | (simp; omega)) hR)); (try simp only [Act.put, List.setIfInBounds_toArray, List.set_cons_succ, List.set_cons_zero])) | (apply wpR_val_want rfl; (focus (intro w1 hR; obtain ⟨hc, hf⟩ := bcellB hR; (try go_simp); (try exact Eq.refl _); done)); (try simp only [Act.put, List.setIfInBounds_toArray, List.set_cons_succ, List.set_cons_zero])) | (apply wpR_call_want rfl; (focus (intro w1 hR; obtain ⟨hc, hf⟩ := bcellB hR; (try go_simp); (try exact And.intro rfl rfl); done)); (focus (intro w1 hR; first | exact (big_calls (hs0.below hR) hl0).at_ (by first | omega | (simp; done) | (simp; omega)) hR)); (try simp only [Act.put, List.setIfInBounds_toArray, List.set_cons_succ, List.set_cons_zero]))))
    (iterate 3 (first | (apply wpR_pass rfl; (try simp only [Act.put, List.setIfInBounds_toArray, List.set_cons_succ, List.set_cons_zero])) | (apply wpR_val rfl; (focus (intro w1 hR; obtain ⟨hc, hf⟩ := bcellB hR; (try go_simp); (try exact Eq.refl _); done)); (try simp only [Act.put, List.setIfInBounds_toArray, List.set_cons_succ, List.set_cons_zero])) | (apply wpR_call rfl; (focus (intro w1 hR; obtain ⟨hc, hf⟩ := bcellB hR; (try go_simp); (try exact And.intro rfl rfl); done)); (focus (intro w1 hR; first | exact (big_calls (hs1.below hR) hl1).at_ (by first | omega | (simp; done) | (simp; omega)) hR)); (try simp only [Act.put, List.setIfInBounds_toArray, List.set_cons_succ, List.set_cons_zero])) | (apply wpR_val_want rfl; (focus (intro w1 hR; obtain ⟨hc, hf⟩ := bcellB hR; (try go_simp); (try exact Eq.refl _); done)); (try simp only [Act.put, List.setIfInBounds_toArray, List.set_cons_succ, List.set_cons_zero])) | (apply wpR_call_want rfl; (focus (intro w1 hR; obtain ⟨hc, hf⟩ := bcellB hR; (try go_simp); (try exact And.intro rfl rfl); done)); (focus (intro w1 hR; first | exact (big_calls (hs1.below hR) hl1).at_ (by first | omega | (simp; done) | (simp; omega)) hR)); (try simp only [Act.put, List.setIfInBounds_toArray, List.set_cons_succ, List.set_cons_zero]))))
    (iterate 3 (first | (apply wpR_pass rfl; (try simp only [Act.put, List.setIfInBounds_toArray, List.set_cons_succ, List.set_cons_zero])) | (apply wpR_val rfl; (focus (intro w1 hR; obtain ⟨hc, hf⟩ := bcellB hR; (try go_simp); (try exact Eq.refl _); done)); (try simp only [Act.put, List.setIfInBounds_toArray, List.set_cons_succ, List.set_cons_zero])) | (apply wpR_call rfl; (focus (intro w1 hR; obtain ⟨hc, hf⟩ := bcellB hR; (try go_simp); (try exact And.intro rfl rfl); done)); (focus (intro w1 hR; first | exact (big_calls (hs2.below hR) hl2).at_ (by first | omega | (simp; done) | (simp; omega)) hR)); (try simp only [Act.put, List.setIfInBounds_toArray, List.set_cons_succ, List.set_cons_zero])) | (apply wpR_val_want rfl; (focus (intro w1 hR; obtain ⟨hc, hf⟩ := bcellB hR; (try go_simp); (try exact Eq.refl _); done)); (try simp only [Act.put, List.setIfInBounds_toArray, List.set_cons_succ, List.set_cons_zero])) | (apply wpR_call_want rfl; (focus (intro w1 hR; obtain ⟨hc, hf⟩ := bcellB hR; (try go_simp); (try exact And.intro rfl rfl); done)); (focus (intro w1 hR; first | exact (big_calls (hs2.below hR) hl2).at_ (by first | omega | (simp; done) | (simp; omega)) hR)); (try simp only [Act.put, List.setIfInBounds_toArray, List.set_cons_succ, List.set_cons_zero]))))
    (iterate 6 (first | (apply wpR_pass rfl; (try simp only [Act.put, List.setIfInBounds_toArray, List.set_cons_succ, List.set_cons_zero])) | (apply wpR_val rfl; (focus (intro w1 hR; obtain ⟨hc, hf⟩ := bcellB hR; (try go_simp); (try exact Eq.refl _); done)); (try simp only [Act.put, List.setIfInBounds_toArray, List.set_cons_succ, List.set_cons_zero])) | (apply wpR_call rfl; (focus (intro w1 hR; obtain ⟨hc, hf⟩ := bcellB hR; (try go_simp); (try exact And.intro rfl rfl); done)); (focus (intro w1 hR; first | exact (big_calls (hs3.below hR) hl3).at_ (by first | omega | (simp; done) | (simp; omega)) hR)); (try simp only [Act.put, List.setIfInBounds_toArray, List.set_cons_succ, List.set_cons_zero])) | (apply wpR_val_want rfl; (focus (intro w1 hR; obtain ⟨hc, hf⟩ := bcellB hR; (try go_simp); (try exact Eq.refl _); done)); (try simp only [Act.put, List.setIfInBounds_toArray, List.set_cons_succ, List.set_cons_zero])) | (apply wpR_call_want rfl; (focus (intro w1 hR; obtain ⟨hc, hf⟩ := bcellB hR; (try go_simp); (try exact And.intro rfl rfl); done)); (focus (intro w1 hR; first | exact (big_calls (hs3.below hR) hl3).at_ (by first | omega | (simp; done) | (simp; omega)) hR)); (try simp only [Act.put, List.setIfInBounds_toArray, List.set_cons_succ, List.set_cons_zero]))))
    refine wpR_nil ?_
    intro w3 hb3
    have hR3 := hR2.below hb3
    have hP3 := hP2.below hb3
    have hst := set_gens p pv (Wi.unbe ((l.drop at_).take 8)) (Wi.unbe ((l.drop (at_ + 8)).take 8)) (Wi.unbe ((l.drop (at_ + 16)).take 8)) (Wi.unbe ((l.drop (at_ + 24)).take 8))
    have hlen43 := pkL_length (v := pv) hp
    refine wpList_store_cells pb 6 [.int .u64 (Wi.unbe ((l.drop at_).take 8) : Nat), .int .u64 (Wi.unbe ((l.drop (at_ + 8)).take 8) : Nat), .int .u64 (Wi.unbe ((l.drop (at_ + 16)).take 8) : Nat), .int .u64 (Wi.unbe ((l.drop (at_ + 24)).take 8) : Nat)] (pkL p pv) rfl rfl rfl rfl hP3 (by rw [hlen43]; simp) (by kernel_rfl) (by intro u hu; simp at hu; rcases hu with rfl | rfl | rfl | rfl <;> rfl) ?_
    refine wpList_nil ?_
    have hgs := setCells_grown w3 pb 6 [.int .u64 (Wi.unbe ((l.drop at_).take 8) : Nat), .int .u64 (Wi.unbe ((l.drop (at_ + 8)).take 8) : Nat), .int .u64 (Wi.unbe ((l.drop (at_ + 16)).take 8) : Nat), .int .u64 (Wi.unbe ((l.drop (at_ + 24)).take 8) : Nat)]
    have hP4 := hP3.store 6 _ _ pv hst
    generalize w3.setCells pb 6 [.int .u64 (Wi.unbe ((l.drop at_).take 8) : Nat), .int .u64 (Wi.unbe ((l.drop (at_ + 8)).take 8) : Nat), .int .u64 (Wi.unbe ((l.drop (at_ + 16)).take 8) : Nat), .int .u64 (Wi.unbe ((l.drop (at_ + 24)).take 8) : Nat)] = w4 at *
    have hR4 : RdAt w4 r (.slice (some ⟨g, o, none⟩) l.length c) (at_ + 32) := blk_grown hR3 hgs (fun e => hpr (by injection e))
    have hg4 : Gr2 w w4 r pb := ((((Gr2.refl w r pb).below hb0).trans (Gr2.of_r hg2)).below hb3).trans (Gr2.of_p hgs)
    have hend : l.length - (l.drop (at_ + 32)).length = at_ + 32 := by rw [List.length_drop]; omega
    clear hs0 hs1 hs2 hs3 hl0 hl1 hl2 hl3 hst
    go_wp2_with fail
    go_ret
    exact ⟨rfl, ⟨pv, hP4, hd.gr2 hg4 hvr hvp, hvr, hvp⟩, by rw [hend]; exact hR4, hg4⟩

set_option maxHeartbeats 8000000 in
theorem read_sum {w : World} {B r pb g o c at_ : Nat} {l : List UInt8} {pv : Value} {p : Wi.Pk} (f : FuncId) (hf : f = 63 ∨ f = 78) (hR : RdAt w r (.slice (some ⟨g, o, none⟩) l.length c) at_) (hr : RB w (.slice (some ⟨g, o, none⟩) l.length c) l) (hgr : g ≠ r) (hgp : g ≠ pb) (hpr : pb ≠ r)
    (hP : PkAt w pb p pv) (hp : p.Ok) (hat : at_ ≤ l.length) (hl : l.length ≤ 140737488355328) (hd : OB B w pv p.data) (hvr : pv.ownBlock ≠ some r) (hvp : pv.ownBlock ≠ some pb) :
    Calls Tryd.prog 47 #[.pointer (some ⟨r, 0, none⟩), fdV (.sum f), .pointer (some ⟨pb, 0, none⟩)] w (ReadPost B w r pb (.slice (some ⟨g, o, none⟩) l.length c) l.length (Wi.rdF p (.sum f) (l.drop at_))) := by
  have hent0 : Og.Enters Tryd.prog f := by
    rcases hf with rfl | rfl
    all_goals (intro args w; kernel_rfl)
  have hent : ∀ args w, (callFunc f args).run Tryd.prog w = .ok (.enter f args) w := hent0
  clear hent0
  have ta := fun w => ta_sum_n w f
  have ta2 := fun w => ta_sum_g w f
  have ta3 := fun w => ta_sum w f
  generalize fdV (.sum f) = fv at *
  generalize zv 107 = z1 at *
  generalize zv 117 = z2 at *
  have hb0 := below_alloc1 w (.cells #[fnV f] 113)
  have hR1 := hR.below hb0
  have hr1 := hr.below hb0
  have hP1 := hP.below hb0
  go_enter Tryd.func47, Tryd.ntmps47
  go_wp2_with fail
  refine (zero_calls hf hP1).out.mono ?_
  rintro e w2 ⟨rfl, hb2⟩
  have hR2 := hR1.below hb2
  have hr2 := hr1.below hb2
  have hP2 := hP1.below hb2
  go_wp2_with fail
  refine (digest_calls (Wi.zeroOf f p) hR2 hr2 hgr hgp hpr hP2 hp hat hl).mono ?_
  intro e w3 hpost
  have hb02 := hb0.trans (hb2.mono hb0.size)
  cases hq : Wi.rdSum (Wi.zeroOf f p) 32 (l.drop at_) with
  | ok s rest =>
    rw [hq] at hpost
    obtain ⟨rfl, hP3, hR3, hg3⟩ := hpost
    have hF : Wi.rdF p (.sum f) (l.drop at_) = .ok { p with sum := s } rest := by simp only [Wi.rdF, hq]
    have HF := Lib.hid hF
    have hg4 := ((Gr2.refl w r pb).below hb02).trans hg3
    clear hF hq
    go_wp2_with fail
    go_ret
    rw [HF.out]
    exact ⟨rfl, ⟨pv, hP3, hd.gr2 hg4 hvr hvp, hvr, hvp⟩, hR3, hg4⟩
  | bad rest =>
    rw [hq] at hpost
    obtain ⟨rfl, hR3, hg3⟩ := hpost
    have hF : Wi.rdF p (.sum f) (l.drop at_) = .bad rest := by simp only [Wi.rdF, hq]
    have HF := Lib.hid hF
    have hg4 := ((Gr2.refl w r pb).below hb02).trans hg3
    clear hF hq
    go_wp2_with fail
    go_ret
    rw [HF.out]
    exact ⟨rfl, hR3, hg4⟩
end Go.Proofs.YtbgfoobcpacfeaaDoor

/- A row of bytes that the call makes (Mk): all below B as in W, the row from B on. Appending, copying, storing. -/
namespace Go.Proofs.YtbgfoobcpacfeaaDoor
open Go.RowKit
set_option maxRecDepth 100000
set_option linter.unusedVariables false
set_option linter.unusedSimpArgs false

/-- w is W, grown from B on; there v holds l. -/
structure Mk (B : Nat) (W w : World) (v : Value) (l : List UInt8) : Prop where
  hB : B ≤ W.heap.size
  below : Below B W w
  own : OB B w v l

section
variable {B : Nat} {W w w' : World} {v v' x : Value} {l m : List UInt8}
theorem Mk.size (h : Mk B W w v l) : B ≤ w.heap.size := Nat.le_trans h.hB h.below.size
theorem Mk.nil_ (hB : B ≤ W.heap.size) (hb : Below B W w) : Mk B W w (.slice none 0 0) [] := ⟨hB, hb, OB.nil_ B w⟩
theorem Mk.behind (h : Mk B W w v l) (hb : Below w.heap.size w w') : Mk B W w' v l := ⟨h.hB, h.below.trans (hb.mono h.size), h.own.below hb⟩
theorem Mk.alloc (h : Mk B W w v l) (o : Obj) : Mk B W (w.alloc o) v l := h.behind (below_alloc1 w o)
theorem Mk.grown (h : Mk B W w v l) (hg : w.grownBy w' v.ownBlock) (ho : OB B w' v' m) : Mk B W w' v' m :=
  ⟨h.hB, h.below.grown hg h.size (fun k hk => (h.own.lt k hk).1), ho⟩
theorem Mk.len (h : Mk B W w v l) : l.length ≤ 140737488355328 := h.own.2
theorem Mk.rb (h : Mk B W w v l) : RB w v l := h.own.rb
/-- What was read ahead reads on. -/
theorem Mk.keep (h : Mk B W w v l) (hr : RB W x m) (hx : m ≠ [] → ∀ g, x.ownBlock = some g → g < B) : RB w x m := hr.belowB h.below hx
theorem Mk.lit (hB : B ≤ W.heap.size) (hb : Below B W w) (cs : Array Value) (l : List UInt8) (n : Nat) (hc : cs = (l.map bv).toArray) (hn : n = l.length) (hl : l.length ≤ 140737488355328) :
    Mk B W (w.alloc (.cells cs 5)) (.slice (some ⟨w.heap.size, 0, none⟩) n n) l := by
  subst hn
  have hs := Nat.le_trans hB hb.size
  exact ⟨hB, hb.trans ((below_alloc1 w _).mono hs), OB.new w cs l hc hl hs⟩
end

/-- append at the operation. -/
theorem wpList_append_Mk {B : Nat} {W w : World} {ops : Array Oper} {rest : List Oper} {o : Oper} {a : Act} {Q : Exit → Act → World → Prop} (v : Value) (m : List UInt8) (s x : Operand) {xv : Value} {l : List UInt8} (hgd : o.guard = none)
    (ho : o.op = .call { callee := .builtin .append, args := #[s, x], argTypes := #[32, 32] }) (hty : o.type = 32)
    (hs : a.eval s = v) (hx : a.eval x = xv) (h : Mk B W w v l) (hr : RB w xv m) (hlen : l.length + m.length ≤ 140737488355328)
    (hk : ∀ v' w', Mk B W w' v' (l ++ m) → wpList Tryd.prog ops Q rest (a.put o.dst v') w') : wpList Tryd.prog ops Q (o :: rest) a w :=
  wpList_append_OB hgd s x ho hty hs hx h.own hr hlen h.size fun v' w' h2 h3 _ => hk v' w' (h.grown h3 h2)

theorem by_sz : (Tryd.prog.info? 5).map (·.size) = some 1 := by
  have h := by_ti
  cases hi : Tryd.prog.info? 5 with
  | none => rw [hi] at h; cases h
  | some i =>
    rw [hi] at h
    simp only [Option.map_some, Option.some.injEq, Prod.mk.injEq] at h
    simp [h.2.1]

/-- Bytes laid over a row of the call's own, from a place on. -/
theorem run_copy_OB {w : World} {B g n cap off dl dc : Nat} {l m : List UInt8} {x : Value} (h : OB B w (.slice (some ⟨g, 0, none⟩) n cap) l) (hr : RB w x m) (hoff : off + m.length ≤ l.length) (hdl : m.length ≤ dl) :
    ∃ w', (Builtin.copy_ #[32, 32] 3 #[.slice (some ⟨g, off, none⟩) dl dc, x]).run Tryd.prog w = .ok (goInt m.length) w' ∧ OB B w' (.slice (some ⟨g, 0, none⟩) n cap) (l.take off ++ (m ++ l.drop (off + m.length))) ∧ w.grownBy w' (some g) := by
  obtain ⟨⟨h0, ⟨e, _⟩ | ⟨g', cap', cur, e, hB, hg, hn, hc, hs, ht⟩⟩, hl⟩ := h
  · cases e
  simp only [Value.slice.injEq, Option.some.injEq, Addr.mk.injEq, and_true, true_and] at e
  obtain ⟨e1, e2, e3⟩ := e
  subst e1 e2 e3
  obtain ⟨p, c, rfl, h1, h2, h3, hcell⟩ := hr
  by_cases hm : m = []
  · subst hm
    refine ⟨w, ?_, ⟨⟨by simp, .inr ⟨g, cap, cur, by simp, hB, hg, by simpa using hn, hc, hs, by simpa using ht⟩⟩, by simpa using hl⟩, World.grownBy.refl w _⟩
    exact run_copy_none (P := Tryd.prog) w 32 32 3 5 _ p dl dc 0 c by_tu by_sz (Nat.zero_min dl)
  · obtain ⟨b, r, rfl⟩ : ∃ b r, m = b :: r := by cases m with | nil => exact absurd rfl hm | cons b r => exact ⟨b, r, rfl⟩
    obtain ⟨ga, oa, rfl, hga, _⟩ := hcell 0 b rfl
    generalize hmm : b :: r = m at *
    have hrun := run_copy_row (P := Tryd.prog) w 32 32 3 5 g off dl dc ⟨ga, oa, none⟩ m.length c cur 5 (m.map bv) by_tu by_sz hg (by rw [List.length_map]; exact (Nat.min_eq_left hdl).symm)
      (fun j u hj => by
        rw [List.getElem?_map] at hj
        cases hb : m[j]? with
        | none => rw [hb] at hj; cases hj
        | some b' =>
          rw [hb] at hj
          cases hj
          obtain ⟨g', o', e, _, hx⟩ := hcell j b' hb
          simp only [Option.some.injEq, Addr.mk.injEq, and_true] at e
          rw [add_flat, e.1, e.2]
          exact hx)
      (by rw [List.length_map, hs]; omega)
      (fun u hu => by
        obtain ⟨b', _, rfl⟩ := List.mem_map.1 hu
        rfl)
    rw [List.length_map] at hrun
    have hll : (l.take off ++ (m ++ l.drop (off + m.length))).length = l.length := by simp; omega
    refine ⟨_, hrun, ⟨⟨by simp, .inr ⟨g, cap, _, by rw [hll], hB, setRow_heap w g cur _ _ _ hg, by rw [hll]; exact hn, hc, ?_, ?_⟩⟩, by rw [hll]; exact hl⟩, ⟨rfl, rfl, rfl, by simp [World.setRow], fun k _ hk => setRow_other w g k _ (fun e => hk (by rw [e]))⟩⟩
    · simp; omega
    · rw [hll]
      have hcl : cur.toList.length = cap := by simpa using hs
      simp only [Nat.mul_one] at ht ⊢
      have e1 : cur.toList.take off = (l.map bv).take off := by rw [← ht, List.take_take, Nat.min_eq_left (by omega)]
      have e2 : (cur.toList.drop (off + m.length)).take (l.length - (off + m.length)) = (l.map bv).drop (off + m.length) := by rw [← ht, List.drop_take]
      simp only [List.map_append, List.map_take, List.map_drop]
      rw [← e1, ← e2, List.take_append, List.take_append]
      have l1 : (cur.toList.take off).length = off := by rw [List.length_take]; omega
      have l2 : (m.map bv).take (l.length - off) = m.map bv := List.take_of_length_le (by rw [List.length_map]; omega)
      have l3 : (cur.toList.take off).take l.length = cur.toList.take off := List.take_of_length_le (by omega)
      rw [List.length_append, l1, l2, List.length_map, List.append_assoc, l3]

/-- copy at the operation. -/
theorem wpList_copy_Mk {B : Nat} {W w : World} {ops : Array Oper} {rest : List Oper} {o : Oper} {a : Act} {Q : Exit → Act → World → Prop} (g n cap off : Nat) (m : List UInt8) (d s : Operand) {dl dc : Nat} {xv : Value} {l : List UInt8} (hgd : o.guard = none)
    (ho : o.op = .call { callee := .builtin .copy, args := #[d, s], argTypes := #[32, 32] }) (hty : o.type = 3)
    (hd : a.eval d = .slice (some ⟨g, off, none⟩) dl dc) (hs : a.eval s = xv) (h : Mk B W w (.slice (some ⟨g, 0, none⟩) n cap) l) (hr : RB w xv m) (hoff : off + m.length ≤ l.length) (hdl : m.length ≤ dl)
    (hk : ∀ w', Mk B W w' (.slice (some ⟨g, 0, none⟩) n cap) (l.take off ++ (m ++ l.drop (off + m.length))) → wpList Tryd.prog ops Q rest (a.put o.dst (goInt m.length)) w') : wpList Tryd.prog ops Q (o :: rest) a w := by
  refine wpList_plain hgd fun K hK => ?_
  obtain ⟨w', hrun, h2, h3⟩ := run_copy_OB (dl := dl) (dc := dc) h.own hr hoff hdl
  unfold Oper.wp execOp
  simp only [ho, hty, resolve, invoke, builtin, Sem.run_bind, Sem.run_pure, Result.andThen_ok, List.map_toArray, List.map_cons, List.map_nil, hd, hs, hrun]
  exact hK _ _ (hk w' (h.grown h3 h2))

/-- For a drawn region: a row, then a row that came of it. -/
def RMa (B : Nat) (W : World) (v : Value) (l l' : List UInt8) : List Value → World → Prop
  | [], w => Mk B W w v l
  | [u], w => Mk B W w u l'
  | _, _ => False
/-- For a drawn region: a row, then beside it a list of bytes. -/
def RMb (B : Nat) (W : World) (v : Value) (l m : List UInt8) : List Value → World → Prop
  | [], w => Mk B W w v l
  | [u], w => Mk B W w v l ∧ RB w u m
  | _, _ => False
section
variable {B : Nat} {W w w' : World} {v : Value} {l l' m : List UInt8} {g : List Value}
theorem RMa.below (h : RMa B W v l l' g w) : Below B W w := by
  match g, h with
  | [], h => exact Mk.below h
  | [u], h => exact Mk.below h
  | _ :: _ :: _, h => exact h.elim
theorem RMa.mono (g : List Value) (w w' : World) (h : RMa B W v l l' g w) (hb : Below w.heap.size w w') : RMa B W v l l' g w' := by
  match g, h with
  | [], h => exact Mk.behind h hb
  | [u], h => exact Mk.behind h hb
  | _ :: _ :: _, h => exact h.elim
theorem RMb.below (h : RMb B W v l m g w) : Below B W w := by
  match g, h with
  | [], h => exact Mk.below h
  | [u], h => exact h.1.below
  | _ :: _ :: _, h => exact h.elim
theorem RMb.row (h : RMb B W v l m g w) : Mk B W w v l := by
  match g, h with
  | [], h => exact h
  | [u], h => exact h.1
  | _ :: _ :: _, h => exact h.elim
theorem RMb.mono (g : List Value) (w w' : World) (h : RMb B W v l m g w) (hb : Below w.heap.size w w') : RMb B W v l m g w' := by
  match g, h with
  | [], h => exact Mk.behind h hb
  | [u], h => exact ⟨h.1.behind hb, h.2.below hb⟩
  | _ :: _ :: _, h => exact h.elim
end
end Go.Proofs.YtbgfoobcpacfeaaDoor

/- bytes.Clone: bytes of its own. -/
namespace Go.Proofs.YtbgfoobcpacfeaaDoor
open Go.RowKit
set_option maxRecDepth 100000
set_option linter.unusedVariables false
set_option linter.unusedSimpArgs false

theorem wb_again (w : World) (b : Nat) (c c' : Array Value) (t : TypeId) : (w.wb b c t).wb b c' t = w.wb b c' t := by
  unfold World.wb
  simp

set_option maxRecDepth 100000 in
set_option maxHeartbeats 4000000 in
theorem clone_calls {w : World} {v : Value} {l : List UInt8} (h : RB w v l) :
    Calls Tryd.prog 55 #[v] w fun e w' => ∃ v', e = .returned v' ∧ OB w.heap.size w' v' l ∧ Below w.heap.size w w' := by
  have hv : RB (w.alloc (.cells #[] 5)) v l := h.below (below_alloc1 _ _)
  have hm0 : Mk w.heap.size w (w.alloc (.cells #[] 5)) (.slice (some ⟨w.heap.size, 0, none⟩) 0 0) [] := Mk.lit (Nat.le_refl _) (Below.refl _ _) #[] [] 0 rfl rfl (by simp)
  have hlen := h.len
  obtain ⟨p, c, rfl⟩ := h.form
  cases p with
  | none =>
    have hl : l = [] := by
      cases l with
      | nil => rfl
      | cons b r => obtain ⟨g, o, e, _⟩ := h.addr (by simp); cases e
    subst hl
    go_enter Tryd.func55, Tryd.ntmps55
    go_wp2_with fail
    go_ret
    exact ⟨_, rfl, OB.nil_ _ _, Below.refl _ _⟩
  | some a =>
    go_enter Tryd.func55, Tryd.ntmps55
    go_wp2_with (first
      | (at_builtin
         refine wpList_append_Mk (.slice (some ⟨w.heap.size, 0, none⟩) 0 0) l (.tmp 5) (.tmp 6) rfl rfl rfl rfl rfl hm0 hv (by simpa using hlen) ?_
         intro v1 w1 hm1)
      | fail)
    go_ret
    exact ⟨_, rfl, by simpa using hm1.own, hm1.below⟩
end Go.Proofs.YtbgfoobcpacfeaaDoor

/- The program's reader: the data. -/
namespace Go.Proofs.YtbgfoobcpacfeaaDoor
open Go.RowKit
set_option maxRecDepth 100000
set_option linter.unusedVariables false
set_option linter.unusedSimpArgs false

theorem rdNum_suffix (s : List (Nat × Nat)) : ∀ (k v : Nat) (l : List UInt8) (x : Nat) (r : List UInt8), Wi.rdNum s k v l = .ok x r → r <:+ l
  | 0, v, l, x, r, h => by
    simp only [Wi.rdNum, Wi.Res.ok.injEq] at h
    rw [h.2]
    exact List.suffix_refl _
  | k + 1, v, [], x, r, h => by simp [Wi.rdNum] at h
  | k + 1, v, c :: l, x, r, h => by
    rw [Wi.rdNum] at h
    split at h
    · exact (rdNum_suffix s k _ l x r h).trans (List.suffix_cons c l)
    · cases h

theorem neq_nil (w : World) : (binOp .neq 32 (.slice none 0 0) (.slice none 0 0)).run Tryd.prog w = .ok (.bool false) w := by kernel_rfl
theorem neq_some (w : World) (a : Addr) (n c : Nat) : (binOp .neq 32 (.slice (some a) n c) (.slice none 0 0)).run Tryd.prog w = .ok (.bool true) w := by kernel_rfl

set_option maxHeartbeats 8000000 in
theorem read_dat {w : World} {B r pb g o c at_ : Nat} {l : List UInt8} {pv : Value} {p : Wi.Pk} (f : FuncId) (hf : f ∈ Wi.mays) (hR : RdAt w r (.slice (some ⟨g, o, none⟩) l.length c) at_) (hr : RB w (.slice (some ⟨g, o, none⟩) l.length c) l) (hgr : g ≠ r) (hgp : g ≠ pb) (hpr : pb ≠ r)
    (hP : PkAt w pb p pv) (hp : p.Ok) (hS : Szs w) (hat : at_ ≤ l.length) (hc : l.length ≤ c) (hcm : c ≤ maxLen) (hl : l.length ≤ 140737488355328) (hB : B ≤ w.heap.size) (hd : OB B w pv p.data) (hd0 : p.data = []) (hvr : pv.ownBlock ≠ some r) (hvp : pv.ownBlock ≠ some pb) :
    Calls Tryd.prog 47 #[.pointer (some ⟨r, 0, none⟩), fdV (.dat f), .pointer (some ⟨pb, 0, none⟩)] w (ReadPost B w r pb (.slice (some ⟨g, o, none⟩) l.length c) l.length (Wi.rdF p (.dat f) (l.drop at_))) := by
  have hent : ∀ args w, (callFunc f args).run Tryd.prog w = .ok (.enter f args) w := mays_enter f hf
  have ta := fun w => ta_dat_n w f
  have ta2 := fun w => ta_dat_g w f
  have ta3 := fun w => ta_dat_s w f
  have ta4 := fun w => ta_dat w f
  generalize fdV (.dat f) = fv at *
  generalize zv 107 = z1 at *
  generalize zv 117 = z2 at *
  generalize zv 113 = z3 at *
  have hb0 := below_alloc1 w (.cells #[fnV f] 115)
  go_enter Tryd.func47, Tryd.ntmps47
  go_wp2_with fail
  refine (may_calls f hf (hP.below hb0) hp (hS.below hb0)).mono ?_
  rintro e w1 ⟨sv, rfl, hs1, hsv, hb1⟩
  have hb01 := hb0.trans (hb1.mono hb0.size)
  have hR1 := hR.below hb01
  have hr1 := hr.below hb01
  have hP1 := hP.below hb01
  have hrl := hR.lt
  have hsr : sv.ownBlock ≠ some r := fun e => by have := hsv r e; have := hb0.size; omega
  have hplt := hP.lt
  go_wp2_with fail
  refine (number_calls (n := 2) hR1 hr1 hgr hs1 hsr hat hl (by decide)).mono ?_
  intro e w2 hpost
  obtain ⟨x, t, rest, rfl, hR2, hg2, hx, hq⟩ := hpost.form
  have hP2 := hP1.grown hg2 (fun e => hpr (by injection e with e; exact e.symm))
  have hr2 := hr1.grown hg2 (fun _ g' e e' => hgr (by cases e; injection e' with e'; exact e'.symm))
  have hg02 := ((Gr2.refl w r pb).below hb01).trans (Gr2.of_r (p := pb) hg2)
  cases t
  · have hF : Wi.rdF p (.dat f) (l.drop at_) = .bad rest := by simp only [Wi.rdF, hq, Bool.false_eq_true, if_false]
    have HF := Lib.hid hF
    clear hF hq hpost
    go_wp2_with fail
    go_ret
    rw [HF.out]
    exact ⟨rfl, hR2, hg02⟩
  · have hsuf : rest = l.drop (l.length - rest.length) := by
      have h1 : rest <:+ l := (rdNum_suffix _ _ _ _ _ _ (by rw [hq, if_pos rfl])).trans (List.drop_suffix _ _)
      exact List.suffix_iff_eq_drop.1 h1
    have hrlen : rest.length ≤ l.length := by
      have := congrArg List.length hsuf
      rw [List.length_drop] at this
      omega
    have hF : Wi.rdF p (.dat f) (l.drop at_) = if rest.length < x then .bad [] else .ok { p with data := rest.take x } (rest.drop x) := by simp only [Wi.rdF, hq, if_true]
    obtain ⟨a2, ha2⟩ : ∃ a2, a2 = l.length - rest.length := ⟨_, rfl⟩
    rw [← ha2] at hR2 hsuf
    have HF := Lib.hid hF
    have Hsuf := Lib.hid hsuf
    have Ha2 := Lib.hid ha2
    have ha2l : a2 ≤ l.length := by omega
    have hx16 : x < 65536 := by simpa using hx
    have hxw : IntKind.i64.wrap (x : Int) = (x : Int) := IntWalk.i64_in _ ⟨by omega, by omega⟩
    have hplt2 := hP2.lt
    have ha2x : a2 + rest.length = l.length := by omega
    clear hF hq hpost hsuf ha2
    by_cases h0 : x = 0
    · subst h0
      have hgt : ¬ ((0 : Int) < ((0 : Nat) : Int)) := by decide
      go_wp2_with fail
      go_ret
      rw [HF.out, if_neg (by omega)]
      refine ⟨rfl, ⟨pv, ?_, ?_, hvr, hvp⟩, ?_, hg02⟩
      · have e : ({ p with data := List.take 0 rest } : Wi.Pk) = p := by rw [List.take_zero, ← hd0]
        rw [e]; exact hP2
      · rw [List.take_zero, ← hd0]; exact hd.gr2 hg02 hvr hvp
      · rw [List.drop_zero, ← Ha2.out]; exact hR2
    · have hgt : (0 : Int) < (x : Int) := by omega
      by_cases hn : rest.length < x
      · go_wp2_with fail
        refine (some_short (n := x) hR2 ha2l hl (by omega) (by omega)).mono ?_
        rintro e w3 ⟨rfl, hR3, hg3⟩
        have hP3 := hP2.grown hg3 (fun e => hpr (by injection e with e; exact e.symm))
        go_wp2_with fail
        refine (clone_calls (RB.nil_ w3)).mono ?_
        rintro e w4 ⟨dv, rfl, hdv, hb4⟩
        have hR4 := hR3.below hb4
        have hP4 := hP3.below hb4
        have hc4 := hP4.cd hp
        have hplt4 := hP4.lt
        have hfz : w4.frozen? ⟨pb, 42, none⟩ = false := by simp [World.frozen?, show w4.heap[pb]? = _ from hP4]
        obtain ⟨dp, dc, rfl⟩ := hdv.rb.form
        have hnq := neq_nil
        go_wp2_with fail
        go_ret
        rw [HF.out, if_pos hn]
        have hgs := setCells_grown w4 pb 42 [.slice dp ([] : List UInt8).length dc]
        exact ⟨rfl, blk_grown hR4 hgs (fun e => hpr (by injection e)), ((hg02.trans (Gr2.of_r hg3)).below hb4).trans (Gr2.of_p hgs)⟩
      · have hnx : a2 + x ≤ l.length := by omega
        go_wp2_with fail
        refine (some_long (n := x) hR2 (by omega) hnx hc hcm hl).mono ?_
        rintro e w3 ⟨rfl, hR3, hg3⟩
        have hP3 := hP2.grown hg3 (fun e => hpr (by injection e with e; exact e.symm))
        have hr3 := hr2.grown hg3 (fun _ g' e e' => hgr (by cases e; injection e' with e'; exact e'.symm))
        have hmx : maxLen = 9223372036854775807 := rfl
        have hsb := hr3.sub a2 x (c - a2) hnx (by omega) (by omega)
        rw [← Hsuf.out] at hsb
        have hrl3 := hR3.lt
        go_wp2_with fail
        refine (clone_calls hsb).mono ?_
        rintro e w4 ⟨dv, rfl, hdv, hb4⟩
        have hR4 := hR3.below hb4
        have hP4 := hP3.below hb4
        have hc4 := hP4.cd hp
        have hplt4 := hP4.lt
        have hfz : w4.frozen? ⟨pb, 42, none⟩ = false := by simp [World.frozen?, show w4.heap[pb]? = _ from hP4]
        obtain ⟨dp, dc, hdvf⟩ := hdv.rb.form
        have h1c : dv.oneCell' = true := by rw [hdvf]; rfl
        have hgs := setCells_grown w4 pb 42 [dv]
        have hP5 := hP4.store 42 [dv] _ dv (set_data p pv dv (rest.take x) hp)
        have hdlt : ∀ k, dv.ownBlock = some k → w3.heap.size ≤ k := fun k e => (hdv.lt k e).1
        have hndp : dv.ownBlock ≠ some pb := fun e => by have := hdlt pb e; have := hP3.lt; omega
        have hndr : dv.ownBlock ≠ some r := fun e => by have := hdlt r e; omega
        have hw3 : B ≤ w3.heap.size := by have := hg02.size; have := hg3.size; omega
        have hg4 := ((hg02.trans (Gr2.of_r hg3)).below hb4).trans (Gr2.of_p hgs)
        have hd5 : OB B (w4.setCells pb 42 [dv]) dv (rest.take x) := (hdv.kept hgs (fun g' e e' => hndp (by rw [e, e']))).more hw3
        have hR5 : RdAt (w4.setCells pb 42 [dv]) r (.slice (some ⟨g, o, none⟩) l.length c) (a2 + x) := blk_grown hR4 hgs (fun e => hpr (by injection e))
        have hend : l.length - (rest.drop x).length = a2 + x := by rw [List.length_drop]; omega
        generalize (rest.take x).length = dn at hdvf
        subst hdvf
        have hnq := fun w => neq_some w ⟨g, o + a2, none⟩ x (c - a2)
        clear hsb hdlt
        go_wp2_with fail
        go_ret
        rw [HF.out, if_neg hn]
        exact ⟨rfl, ⟨_, hP5, hd5, hndr, hndp⟩, by rw [hend]; exact hR5, hg4⟩

/-- read, any field. -/
theorem read_calls {w : World} {B r pb g o c at_ : Nat} {l : List UInt8} {pv : Value} {p : Wi.Pk} (x : Fd) (hx : FdOk x) (hR : RdAt w r (.slice (some ⟨g, o, none⟩) l.length c) at_) (hr : RB w (.slice (some ⟨g, o, none⟩) l.length c) l) (hgr : g ≠ r) (hgp : g ≠ pb) (hpr : pb ≠ r)
    (hP : PkAt w pb p pv) (hp : p.Ok) (hS : Szs w) (hat : at_ ≤ l.length) (hc : l.length ≤ c) (hcm : c ≤ maxLen) (hl : l.length ≤ 140737488355328) (hB : B ≤ w.heap.size) (hd : OB B w pv p.data) (hd0 : Wi.Fd.isDat x = true → p.data = []) (hvr : pv.ownBlock ≠ some r) (hvp : pv.ownBlock ≠ some pb) :
    Calls Tryd.prog 47 #[.pointer (some ⟨r, 0, none⟩), fdV x, .pointer (some ⟨pb, 0, none⟩)] w (ReadPost B w r pb (.slice (some ⟨g, o, none⟩) l.length c) l.length (Wi.rdF p x (l.drop at_))) := by
  cases x with
  | num k f => exact read_num k f hx.2.2 hR hr hgr hgp hpr hP hp hS hat hl hd hvr hvp
  | gens => exact read_gens hR hr hgr hgp hpr hP hp hat hc hcm hl hd hvr hvp
  | sum f => exact read_sum f hx hR hr hgr hgp hpr hP hp hat hl hd hvr hvp
  | dat f => exact read_dat f hx hR hr hgr hgp hpr hP hp hS hat hc hcm hl hB hd (hd0 rfl) hvr hvp
end Go.Proofs.YtbgfoobcpacfeaaDoor

/- What is read as a field: plain facts. -/
namespace Go.Proofs.YtbgfoobcpacfeaaDoor
set_option linter.unusedVariables false
namespace Wi
theorem unbe_lt8 (l : List UInt8) (k : Nat) (hk : l.length ≤ k) : unbe l < 256 ^ k :=
  Nat.lt_of_lt_of_le (unbe_lt l) (Nat.pow_le_pow_right (by decide) hk)
theorem rdNum_bad_suffix (s : List (Nat × Nat)) : ∀ (k v : Nat) (l r : List UInt8), rdNum s k v l = .bad r → r <:+ l
  | 0, v, l, r, h => by simp [rdNum] at h
  | k + 1, v, [], r, h => by
    simp only [rdNum, Res.bad.injEq] at h
    rw [← h]
    exact List.suffix_refl _
  | k + 1, v, c :: l, r, h => by
    rw [rdNum] at h
    split at h
    · exact (rdNum_bad_suffix s k _ l r h).trans (List.suffix_cons c l)
    · simp only [Res.bad.injEq] at h
      rw [← h]
      exact List.suffix_refl _
theorem rdSum_ok (z : Bool) : ∀ (k : Nat) (l s r : List UInt8), rdSum z k l = .ok s r → s.length = k ∧ s ++ r = l ∧ (z = true → ∀ b ∈ s, b = 0)
  | 0, l, s, r, h => by
    simp only [rdSum, Res.ok.injEq] at h
    obtain ⟨rfl, rfl⟩ := h
    exact ⟨rfl, rfl, fun _ b hb => by simp at hb⟩
  | k + 1, [], s, r, h => by simp [rdSum] at h
  | k + 1, c :: l, s, r, h => by
    rw [rdSum] at h
    split at h
    · cases h
    · rename_i hz
      cases hq : rdSum z k l with
      | ok t u =>
        rw [hq] at h
        simp only [Res.ok.injEq] at h
        obtain ⟨rfl, rfl⟩ := h
        obtain ⟨h1, h2, h3⟩ := rdSum_ok z k l t u hq
        refine ⟨by simp [h1], by simp [h2], fun hz' b hb => ?_⟩
        rcases List.mem_cons.1 hb with rfl | hb
        · subst hz'
          simpa using hz
        · exact h3 hz' b hb
      | bad u => rw [hq] at h; cases h
theorem rdSum_bad_suffix (z : Bool) : ∀ (k : Nat) (l r : List UInt8), rdSum z k l = .bad r → r <:+ l
  | 0, l, r, h => by simp [rdSum] at h
  | k + 1, [], r, h => by
    simp only [rdSum, Res.bad.injEq] at h
    rw [← h]
    exact List.suffix_refl _
  | k + 1, c :: l, r, h => by
    rw [rdSum] at h
    split at h
    · simp only [Res.bad.injEq] at h
      rw [← h]
      exact List.suffix_refl _
    · cases hq : rdSum z k l with
      | ok t u => rw [hq] at h; cases h
      | bad u =>
        rw [hq] at h
        simp only [Res.bad.injEq] at h
        subst h
        exact (rdSum_bad_suffix z k l u hq).trans (List.suffix_cons c l)
theorem nil_suffix' (l : List UInt8) : ([] : List UInt8) <:+ l := ⟨l, by simp⟩
theorem rdF_suffix {p : Pk} {x : Fd} {l : List UInt8} : (∀ q r, rdF p x l = .ok q r → r <:+ l) ∧ ∀ r, rdF p x l = .bad r → r <:+ l := by
  cases x with
  | num k f =>
    simp only [rdF]
    cases hq : rdNum (spansOf f p) 4 0 l with
    | ok v r => exact ⟨fun q r' h => by simp only [Res.ok.injEq] at h; rw [← h.2]; exact rdNum_suffix _ _ _ _ _ _ hq, fun r' h => by cases h⟩
    | bad r => exact ⟨fun q r' h => by (cases h), fun r' h => by simp only [Res.bad.injEq] at h; rw [← h]; exact rdNum_bad_suffix _ _ _ _ _ hq⟩
  | gens =>
    simp only [rdF]
    split
    · exact ⟨fun q r' h => by (cases h), fun r' h => by simp only [Res.bad.injEq] at h; rw [← h]; exact nil_suffix' _⟩
    · exact ⟨fun q r' h => by simp only [Res.ok.injEq] at h; rw [← h.2]; exact List.drop_suffix _ _, fun r' h => by cases h⟩
  | sum f =>
    simp only [rdF]
    cases hq : rdSum (zeroOf f p) 32 l with
    | ok v r => exact ⟨fun q r' h => by simp only [Res.ok.injEq] at h; rw [← h.2]; exact ⟨v, (rdSum_ok _ _ _ _ _ hq).2.1⟩, fun r' h => by cases h⟩
    | bad r => exact ⟨fun q r' h => by (cases h), fun r' h => by simp only [Res.bad.injEq] at h; rw [← h]; exact rdSum_bad_suffix _ _ _ _ hq⟩
  | dat f =>
    simp only [rdF]
    cases hq : rdNum (spansOf f p) 2 0 l with
    | ok v r =>
      simp only
      split
      · exact ⟨fun q r' h => by (cases h), fun r' h => by simp only [Res.bad.injEq] at h; rw [← h]; exact nil_suffix' _⟩
      · exact ⟨fun q r' h => by simp only [Res.ok.injEq] at h; rw [← h.2]; exact (List.drop_suffix _ _).trans (rdNum_suffix _ _ _ _ _ _ hq), fun r' h => by cases h⟩
    | bad r => exact ⟨fun q r' h => by (cases h), fun r' h => by simp only [Res.bad.injEq] at h; rw [← h]; exact rdNum_bad_suffix _ _ _ _ _ hq⟩
theorem rdF_ok {p : Pk} (hp : p.Ok) {x : Fd} {l : List UInt8} {q : Pk} {r : List UInt8} (h : rdF p x l = .ok q r) : q.Ok := by
  cases x with
  | num k f =>
    simp only [rdF] at h
    cases hq : rdNum (spansOf f p) 4 0 l with
    | ok v r =>
      rw [hq] at h
      simp only [Res.ok.injEq] at h
      obtain ⟨rfl, rfl⟩ := h
      have := rdNum_lt _ _ _ _ _ _ hq
      exact hp.setNum k (by simpa using this)
    | bad r => rw [hq] at h; cases h
  | gens =>
    simp only [rdF] at h
    split at h
    · cases h
    · simp only [Res.ok.injEq] at h
      obtain ⟨rfl, rfl⟩ := h
      have h8 : ∀ m : List UInt8, unbe (m.take 8) < 18446744073709551616 := fun m => unbe_lt8 (m.take 8) 8 (by rw [List.length_take]; omega)
      exact ⟨hp.id, hp.block, hp.epoch, hp.count, hp.flags, h8 _, h8 _, h8 _, h8 _, hp.sum, hp.data⟩
  | sum f =>
    simp only [rdF] at h
    cases hq : rdSum (zeroOf f p) 32 l with
    | ok v r =>
      rw [hq] at h
      simp only [Res.ok.injEq] at h
      obtain ⟨rfl, rfl⟩ := h
      exact ⟨hp.id, hp.block, hp.epoch, hp.count, hp.flags, hp.g1, hp.g2, hp.g3, hp.g4, (rdSum_ok _ _ _ _ _ hq).1, hp.data⟩
    | bad r => rw [hq] at h; cases h
  | dat f =>
    simp only [rdF] at h
    cases hq : rdNum (spansOf f p) 2 0 l with
    | ok v r =>
      rw [hq] at h
      simp only at h
      split at h
      · cases h
      · simp only [Res.ok.injEq] at h
        obtain ⟨rfl, rfl⟩ := h
        have := rdNum_lt _ _ _ _ _ _ hq
        refine ⟨hp.id, hp.block, hp.epoch, hp.count, hp.flags, hp.g1, hp.g2, hp.g3, hp.g4, hp.sum, ?_⟩
        show (r.take v).length ≤ _
        rw [List.length_take]
        omega
    | bad r => rw [hq] at h; cases h
theorem rdF_data {p : Pk} {x : Fd} {l : List UInt8} {q : Pk} {r : List UInt8} (h : rdF p x l = .ok q r) (hx : Fd.isDat x = false) : q.data = p.data := by
  cases x with
  | num k f =>
    simp only [rdF] at h
    split at h
    · simp only [Res.ok.injEq] at h; rw [← h.1]; exact p.setNum_data k _
    · cases h
  | gens =>
    simp only [rdF] at h
    split at h
    · cases h
    · simp only [Res.ok.injEq] at h; rw [← h.1]
  | sum f =>
    simp only [rdF] at h
    split at h
    · simp only [Res.ok.injEq] at h; rw [← h.1]
    · cases h
  | dat f => cases hx
/-- The answer, by what the fields were read as. -/
def fin (n : Nat) : Res Pk → Pk × Nat × Int
  | .ok p [] => (p, 0, 0)
  | .ok _ (d :: r) => (Pk.zero 0, n - (d :: r).length, 76)
  | .bad [] => (Pk.zero 0, n, 71)
  | .bad (d :: r) => (Pk.zero 0, n - (d :: r).length, 75)
theorem unpack_known {b : UInt8} {l : List UInt8} (hk : knownB b.toNat = true) : unpack (b :: l) = fin (b :: l).length (rdAll (fieldsOf b.toNat) (Pk.zero b.toNat) l) := by
  show (if knownB b.toNat = false then _ else _) = _
  rw [if_neg (by rw [hk]; decide)]
  rcases rdAll (fieldsOf b.toNat) (Pk.zero b.toNat) l with ⟨p, _ | _⟩ | (_ | _) <;> rfl
end Wi
end Go.Proofs.YtbgfoobcpacfeaaDoor

/- The program's DecodePacket: parts. -/
namespace Go.Proofs.YtbgfoobcpacfeaaDoor
open Go.RowKit
set_option maxRecDepth 100000
set_option linter.unusedVariables false
set_option linter.unusedSimpArgs false

/-- What DecodePacket answers. -/
def DecPost (w : World) (l : List UInt8) (e : Ending) (w' : World) : Prop :=
  ∃ pv, e = .returned (.tuple #[.agg (pkL (Wi.unpack l).1 pv).toArray, .int .i64 ((Wi.unpack l).2.1 : Nat), .int .i64 (Wi.unpack l).2.2]) ∧ OB w.heap.size w' pv (Wi.unpack l).1.data ∧ Below w.heap.size w w'
theorem results_cell3 {P : Program} {fn : Func} {w : World} {T : TypeId} {R0 : Nat} {v : Value} (tmps : Array Value) (hr : fn.results = #[.cell 2 T, .tmp 3, .tmp 4]) (h2 : tmps.getD 2 undef = .pointer (some ⟨R0, 0, none⟩)) (h : (loadVar T ⟨R0, 0, none⟩).run P w = .ok v w) :
    (results fn tmps).run P w = .ok (.tuple #[v, tmps.getD 3 undef, tmps.getD 4 undef]) w := by
  simp only [results, hr]
  simp only [Array.getD_eq_getD_getElem?] at h2 ⊢
  simp [h2, asAddr, h]
theorem dec_res {w : World} {R0 : Nat} {q : Wi.Pk} {pv : Value} (tmps : Array Value) (h2 : tmps.getD 2 undef = .pointer (some ⟨R0, 0, none⟩)) (hP : PkAt w R0 q pv) (hq : q.Ok) :
    (results Tryd.f26 tmps).run Tryd.prog w = .ok (.tuple #[.agg (pkL q pv).toArray, tmps.getD 3 undef, tmps.getD 4 undef]) w :=
  results_cell3 tmps rfl h2 (by simpa [Instr.loadAt, Instr.sureAddr] using load_pk hP hq)
/-- The zero packet's build. -/
theorem build_zero {ρ : Operand → Value} {o : Oper} (ho : o.op = .build 34 #[]) (w : World) : (execOp ρ o).run Tryd.prog w = .ok (.value (.agg (pkL (Wi.Pk.zero 0) (.slice none 0 0)).toArray)) w := by
  unfold execOp
  rw [ho]
  kernel_rfl
theorem build_cmd {ρ : Operand → Value} {o : Oper} {x : Operand} {c : Int} (ho : o.op = .build 34 #[(0, x)]) (hx : ρ x = .int .i64 c) (w : World) : (execOp ρ o).run Tryd.prog w = .ok (.value (.agg (pkL (Wi.Pk.zero c) (.slice none 0 0)).toArray)) w := by
  have h1 : (Instr.build 34 #[(0, .int .i64 c)]).run Tryd.prog w = .ok (.agg (pkL (Wi.Pk.zero c) (.slice none 0 0)).toArray) w := by kernel_rfl
  unfold execOp
  rw [ho]
  simp [hx, h1]
/-- The zero packet laid over the result, which was zero. -/
theorem set_zero : setAll (pkL (Wi.Pk.zero 0) (.slice none 0 0)) 0 (pkL (Wi.Pk.zero 0) (.slice none 0 0)) = pkL (Wi.Pk.zero 0) (.slice none 0 0) := set_all (Wi.Pk.zero_ok 0) (Wi.Pk.zero_ok 0)

set_option maxHeartbeats 8000000 in
theorem decP_nil {w : World} {p : Option Addr} {c : Nat} : Calls Tryd.prog 26 #[.slice p 0 c] w (DecPost w []) := by
  have hz := heap_new w (.cells (pkL (Wi.Pk.zero 0) (.slice none 0 0)).toArray 34) w.heap.size rfl
  have hb0 := below_alloc1 w (.cells (pkL (Wi.Pk.zero 0) (.slice none 0 0)).toArray 34)
  go_enter Tryd.func26, Tryd.ntmps26
  go_upto_region 0 with fail
  rename_i hnext
  refine wp_region_lit ?_
  refine Og.st_start (n := 70) rfl fun a hF => ?_
  refine Og.st_val (w' := w.alloc (.cells (pkL (Wi.Pk.zero 0) (.slice none 0 0)).toArray 34)) (.pointer (some ⟨w.heap.size, 0, none⟩)) hF rfl rfl (by decide) (alloc_pk rfl w) fun a hF => ?_
  generalize w.alloc (.cells (pkL (Wi.Pk.zero 0) (.slice none 0 0)).toArray 34) = w0 at *
  refine Og.st_same (.int .i64 0) hF rfl rfl (by decide) rfl fun a hF => ?_
  refine Og.st_same (.int .i64 0) hF rfl rfl (by decide) rfl fun a hF => ?_
  refine wpList_nil ?_
  obtain ⟨U, rfl⟩ := Og.Fr.lit_ex hF (fun U => ⟨#[.slice p 0 c, U 1, .pointer (some ⟨w.heap.size, 0, none⟩), .int .i64 0, .int .i64 0, U 5, U 6, U 7, U 8, U 9, U 10, U 11, U 12, U 13, U 14, U 15, U 16, U 17, U 18, U 19, U 20, U 21, U 22, U 23, U 24, U 25, U 26, U 27, U 28, U 29, U 30, U 31, U 32, U 33, U 34, U 35, U 36, U 37, U 38, U 39, U 40, U 41, U 42, U 43, U 44, U 45, U 46, U 47, U 48, U 49, U 50, U 51, U 52, U 53, U 54, U 55, U 56, U 57, U 58, U 59, U 60, U 61, U 62, U 63, U 64, U 65, U 66, U 67, U 68, U 69], []⟩) (by kernel_rfl)
  clear hF
  refine hnext _ _ ?_
  clear hnext
  go_upto_region 2 with fail
  rename_i hnext
  refine wp_region_lit ?_
  refine Og.st_start (n := 70) rfl fun a hF => ?_
  refine Og.st_same (.agg (pkL (Wi.Pk.zero 0) (.slice none 0 0)).toArray) hF rfl rfl (by decide) (build_zero rfl w0) fun a hF => ?_
  refine Og.st_skip (w' := w0.setCells w.heap.size 0 (pkL (Wi.Pk.zero 0) (.slice none 0 0))) hF rfl rfl
    (exec_store (o := 0) (vs := pkL (Wi.Pk.zero 0) (.slice none 0 0)) (cs := pkL (Wi.Pk.zero 0) (.slice none 0 0)) rfl rfl rfl hz (Nat.le_of_eq (by simp)) (by rw [pkL_length (Wi.Pk.zero_ok 0)]; exact pk_i) (pkL_one (Wi.Pk.zero 0) _ rfl)) fun a hF => ?_
  have hP1 := PkAt.store hz 0 _ _ _ set_zero
  have hb1 : Below w.heap.size w (w0.setCells w.heap.size 0 (pkL (Wi.Pk.zero 0) (.slice none 0 0))) := hb0.grown (setCells_grown _ w.heap.size 0 _) hb0.size (fun k hk => by injection hk with hk; omega)
  generalize w0.setCells w.heap.size 0 (pkL (Wi.Pk.zero 0) (.slice none 0 0)) = w1 at *
  refine Og.st_same (.int .i64 0) hF rfl rfl (by decide) rfl fun a hF => ?_
  refine Og.st_same (.int .i64 71) hF rfl rfl (by decide) rfl fun a hF => ?_
  refine wpList_nil ?_
  refine hnext _ _ (wp_ret ?_)
  simp only [Exit.inBlock, Exit.then]
  refine bodyPost_ret (dec_res _ (hF.2.2 2) hP1 (Wi.Pk.zero_ok 0)) hF.1 ?_
  rw [hF.2.2 3, hF.2.2 4]
  exact ⟨.slice none 0 0, rfl, OB.nil_ _ _, hb1⟩
end Go.Proofs.YtbgfoobcpacfeaaDoor

/- The program's DecodePacket: an unknown command. -/
namespace Go.Proofs.YtbgfoobcpacfeaaDoor
open Go.RowKit
set_option maxRecDepth 100000
set_option linter.unusedVariables false
set_option linter.unusedSimpArgs false

theorem exec_idx {P : Program} {ρ : Operand → Value} {o : Oper} {x y : Operand} {t : TypeId} {w : World} {v : Value} (ho : o.op = .indexAddr t x y) (h : (Instr.indexAt t (ρ x) (ρ y)).run P w = .ok v w) : (execOp ρ o).run P w = .ok (.value v) w := by
  unfold execOp
  rw [ho]
  simp [h]
theorem exec_conv {P : Program} {ρ : Operand → Value} {o : Oper} {x : Operand} {t u : TypeId} {w : World} {v : Value} (ho : o.op = .convert t u x) (h : (convert t u (ρ x)).run P w = .ok v w) : (execOp ρ o).run P w = .ok (.value v) w := by
  unfold execOp
  rw [ho]
  simp [h]
theorem idx0 (w : World) (g o n c : Nat) (hn : 0 < n) : (Instr.indexAt 32 (.slice (some ⟨g, o, none⟩) n c) (.int .i64 0)).run Tryd.prog w = .ok (.pointer (some ⟨g, o, none⟩)) w := by
  have h1 : (0 : Int) < (n : Int) := by omega
  go_simp
theorem ld_byte {w : World} {g o : Nat} {b : UInt8} (h : w.cell? ⟨g, o, none⟩ = some (bv b)) : (Instr.loadAt 5 (.pointer (some ⟨g, o, none⟩))).run Tryd.prog w = .ok (bv b) w := by
  go_simp
theorem cv_byte (w : World) (b : UInt8) : (convert 5 3 (bv b)).run Tryd.prog w = .ok (.int .i64 (b.toNat : Nat)) w := by
  have h1 : IntKind.i64.wrap (b.toNat : Int) = (b.toNat : Int) := IntWalk.i64_in _ ⟨by omega, by have := b.toNat_lt; omega⟩
  go_simp

/-- The command's packet begun: the frame and the memory. -/
def BegI (w : World) (g o c : Nat) (l : List UInt8) (b : UInt8) (a : Act) (w' : World) : Prop :=
  (∃ U : Nat → Value, a = ⟨#[.slice (some ⟨g, o, none⟩) l.length c, U 1, .pointer (some ⟨w.heap.size, 0, none⟩), .int .i64 0, .int .i64 0, .pointer (some ⟨w.heap.size + 1, 0, none⟩), U 6, U 7, U 8, U 9, U 10, U 11, U 12, U 13, U 14, U 15, U 16, U 17, U 18, U 19, U 20, U 21, U 22, U 23, U 24, U 25, U 26, U 27, U 28, U 29, U 30, U 31, U 32, U 33, U 34, U 35, U 36, U 37, U 38, U 39, U 40, U 41, U 42, U 43, U 44, U 45, U 46, U 47, U 48, U 49, U 50, U 51, U 52, U 53, U 54, U 55, U 56, U 57, U 58, U 59, U 60, U 61, U 62, U 63, U 64, U 65, U 66, U 67, U 68, U 69], []⟩) ∧
    PkAt w' w.heap.size (Wi.Pk.zero 0) (.slice none 0 0) ∧ PkAt w' (w.heap.size + 1) (Wi.Pk.zero b.toNat) (.slice none 0 0) ∧ Below w.heap.size w w' ∧ w'.heap.size = w.heap.size + 2

set_option maxHeartbeats 8000000 in
theorem decP_unk {w : World} {g o c : Nat} {b : UInt8} {l' : List UInt8} (hr : RB w (.slice (some ⟨g, o, none⟩) (b :: l').length c) (b :: l')) (hk : knownB b.toNat = false) :
    Calls Tryd.prog 26 #[.slice (some ⟨g, o, none⟩) (b :: l').length c] w (DecPost w (b :: l')) := by
  have hz := heap_new w (.cells (pkL (Wi.Pk.zero 0) (.slice none 0 0)).toArray 34) w.heap.size rfl
  have hb0 := below_alloc1 w (.cells (pkL (Wi.Pk.zero 0) (.slice none 0 0)).toArray 34)
  have hs0 : (w.alloc (.cells (pkL (Wi.Pk.zero 0) (.slice none 0 0)).toArray 34)).heap.size = w.heap.size + 1 := by simp
  have hl0 : 0 < (b :: l').length := by simp
  have hl0I : ¬ (((b :: l').length : Nat) : Int) = 0 := by simp; omega
  obtain ⟨n, hn⟩ : ∃ n, n = (b :: l').length := ⟨_, rfl⟩
  rw [← hn] at hr hl0 hl0I ⊢
  have Hn := Lib.hid hn
  clear hn
  go_enter Tryd.func26, Tryd.ntmps26
  go_upto_region 0 with fail
  rename_i hnext
  refine wp_region_lit ?_
  refine Og.st_start (n := 70) rfl fun a hF => ?_
  refine Og.st_val (w' := w.alloc (.cells (pkL (Wi.Pk.zero 0) (.slice none 0 0)).toArray 34)) (.pointer (some ⟨w.heap.size, 0, none⟩)) hF rfl rfl (by decide) (alloc_pk rfl w) fun a hF => ?_
  generalize w.alloc (.cells (pkL (Wi.Pk.zero 0) (.slice none 0 0)).toArray 34) = w0 at *
  refine Og.st_same (.int .i64 0) hF rfl rfl (by decide) rfl fun a hF => ?_
  refine Og.st_same (.int .i64 0) hF rfl rfl (by decide) rfl fun a hF => ?_
  refine wpList_nil ?_
  obtain ⟨U, rfl⟩ := Og.Fr.lit_ex hF (fun U => ⟨#[.slice (some ⟨g, o, none⟩) n c, U 1, .pointer (some ⟨w.heap.size, 0, none⟩), .int .i64 0, .int .i64 0, U 5, U 6, U 7, U 8, U 9, U 10, U 11, U 12, U 13, U 14, U 15, U 16, U 17, U 18, U 19, U 20, U 21, U 22, U 23, U 24, U 25, U 26, U 27, U 28, U 29, U 30, U 31, U 32, U 33, U 34, U 35, U 36, U 37, U 38, U 39, U 40, U 41, U 42, U 43, U 44, U 45, U 46, U 47, U 48, U 49, U 50, U 51, U 52, U 53, U 54, U 55, U 56, U 57, U 58, U 59, U 60, U 61, U 62, U 63, U 64, U 65, U 66, U 67, U 68, U 69], []⟩) (by kernel_rfl)
  clear hF
  refine hnext _ _ ?_
  clear hnext
  go_upto_region 3 with fail
  rename_i hnext
  have hr0 := hr.below hb0
  have hcell := cell_of_rb hr0 0 b rfl
  rw [Nat.add_zero] at hcell
  refine wp_region_lit ?_
  refine Og.st_start (n := 70) rfl fun a hF => ?_
  refine Og.st_same (.slice (some ⟨g, o, none⟩) n c) hF rfl rfl (by decide) rfl fun a hF => ?_
  refine Og.st_same (.pointer (some ⟨g, o, none⟩)) hF rfl rfl (by decide) (exec_idx rfl (idx0 w0 g o n c hl0)) fun a hF => ?_
  refine Og.st_same (bv b) hF rfl rfl (by decide) (Og.exec_load rfl (ld_byte hcell)) fun a hF => ?_
  refine Og.st_same (.int .i64 (b.toNat : Nat)) hF rfl rfl (by decide) (exec_conv rfl (cv_byte w0 b)) fun a hF => ?_
  refine Og.st_same (.agg (pkL (Wi.Pk.zero (b.toNat : Nat)) (.slice none 0 0)).toArray) hF rfl rfl (by decide) (build_cmd rfl rfl w0) fun a hF => ?_
  refine Og.st_val (w' := w0.alloc (.cells (pkL (Wi.Pk.zero 0) (.slice none 0 0)).toArray 34)) (.pointer (some ⟨w0.heap.size, 0, none⟩)) hF rfl rfl (by decide) (alloc_pk rfl w0) fun a hF => ?_
  have hz2 := heap_new w0 (.cells (pkL (Wi.Pk.zero 0) (.slice none 0 0)).toArray 34) w0.heap.size rfl
  refine Og.st_skip (w' := (w0.alloc (.cells (pkL (Wi.Pk.zero 0) (.slice none 0 0)).toArray 34)).setCells w0.heap.size 0 (pkL (Wi.Pk.zero (b.toNat : Nat)) (.slice none 0 0))) hF rfl rfl
    (exec_store (o := 0) (vs := pkL (Wi.Pk.zero (b.toNat : Nat)) (.slice none 0 0)) (cs := pkL (Wi.Pk.zero 0) (.slice none 0 0)) rfl rfl rfl hz2 (by rw [pkL_length (Wi.Pk.zero_ok 0), pkL_length (Wi.Pk.zero_ok _)]; decide) (by rw [pkL_length (Wi.Pk.zero_ok _)]; exact pk_i) (pkL_one (Wi.Pk.zero _) _ rfl)) fun a hF => ?_
  have hP1 := PkAt.store hz2 0 _ (Wi.Pk.zero (b.toNat : Nat)) (.slice none 0 0) (set_all (Wi.Pk.zero_ok _) (Wi.Pk.zero_ok 0))
  have hb1 : Below w0.heap.size w0 ((w0.alloc (.cells (pkL (Wi.Pk.zero 0) (.slice none 0 0)).toArray 34)).setCells w0.heap.size 0 (pkL (Wi.Pk.zero (b.toNat : Nat)) (.slice none 0 0))) :=
    (below_alloc1 w0 _).grown (setCells_grown _ w0.heap.size 0 _) (by simp) (fun k hk => by injection hk with hk; omega)
  generalize (w0.alloc (.cells (pkL (Wi.Pk.zero 0) (.slice none 0 0)).toArray 34)).setCells w0.heap.size 0 (pkL (Wi.Pk.zero (b.toNat : Nat)) (.slice none 0 0)) = w1 at *
  refine wpList_nil ?_
  have hz1 := blk_below hz hb1
  have hb01 := hb0.trans (hb1.mono hb0.size)
  rw [hs0] at *
  obtain ⟨U, rfl⟩ := Og.Fr.lit_ex hF (fun U => ⟨#[.slice (some ⟨g, o, none⟩) n c, U 1, .pointer (some ⟨w.heap.size, 0, none⟩), .int .i64 0, .int .i64 0, .pointer (some ⟨w.heap.size + 1, 0, none⟩), U 6, U 7, U 8, U 9, U 10, U 11, U 12, U 13, U 14, U 15, U 16, U 17, U 18, U 19, U 20, U 21, U 22, U 23, U 24, U 25, U 26, U 27, U 28, U 29, U 30, U 31, U 32, U 33, U 34, U 35, U 36, U 37, U 38, U 39, U 40, U 41, U 42, U 43, U 44, U 45, U 46, U 47, U 48, U 49, U 50, U 51, U 52, U 53, U 54, U 55, U 56, U 57, U 58, U 59, U 60, U 61, U 62, U 63, U 64, U 65, U 66, U 67, U 68, U 69], []⟩) (by kernel_rfl)
  clear hF
  refine hnext _ _ ?_
  clear hnext
  have hc0 := hP1.c0
  have hLlt := hP1.lt
  have hs1 := hb1.size
  go_wp2_with fail
  refine (known_calls _ (b.toNat : Nat)).out.mono ?_
  rintro e w2 ⟨rfl, hb2⟩
  rw [hk]
  have hz2 := blk_below hz1 hb2
  have hb02 := hb01.trans (hb2.mono hb01.size)
  go_upto_region 5 with fail
  rename_i hnext
  refine wp_region_lit ?_
  refine Og.st_start (n := 70) rfl fun a hF => ?_
  refine Og.st_same (.agg (pkL (Wi.Pk.zero 0) (.slice none 0 0)).toArray) hF rfl rfl (by decide) (build_zero rfl w2) fun a hF => ?_
  refine Og.st_skip (w' := w2.setCells w.heap.size 0 (pkL (Wi.Pk.zero 0) (.slice none 0 0))) hF rfl rfl
    (exec_store (o := 0) (vs := pkL (Wi.Pk.zero 0) (.slice none 0 0)) (cs := pkL (Wi.Pk.zero 0) (.slice none 0 0)) rfl rfl rfl hz2 (Nat.le_of_eq (by simp)) (by rw [pkL_length (Wi.Pk.zero_ok 0)]; exact pk_i) (pkL_one (Wi.Pk.zero 0) _ rfl)) fun a hF => ?_
  have hP3 := PkAt.store hz2 0 _ _ _ set_zero
  have hb3 : Below w.heap.size w (w2.setCells w.heap.size 0 (pkL (Wi.Pk.zero 0) (.slice none 0 0))) := hb02.grown (setCells_grown _ w.heap.size 0 _) hb02.size (fun k hk => by injection hk with hk; omega)
  generalize w2.setCells w.heap.size 0 (pkL (Wi.Pk.zero 0) (.slice none 0 0)) = w3 at *
  refine Og.st_same (.int .i64 0) hF rfl rfl (by decide) rfl fun a hF => ?_
  refine Og.st_same (.int .i64 74) hF rfl rfl (by decide) rfl fun a hF => ?_
  refine wpList_nil ?_
  refine hnext _ _ (wp_ret ?_)
  simp only [Exit.inBlock, Exit.then]
  have hu : Wi.unpack (b :: l') = (Wi.Pk.zero 0, 0, 74) := by
    unfold Wi.unpack
    simp only [hk, if_true]
  refine bodyPost_ret (dec_res _ (hF.2.2 2) hP3 (Wi.Pk.zero_ok 0)) hF.1 ?_
  rw [hF.2.2 3, hF.2.2 4]
  unfold DecPost
  rw [hu]
  exact ⟨.slice none 0 0, rfl, OB.nil_ _ _, hb3⟩
end Go.Proofs.YtbgfoobcpacfeaaDoor

/- The program's DecodePacket: a known command. (Printed by wip/w7gen/mkdecp3.py.) -/
namespace Go.Proofs.YtbgfoobcpacfeaaDoor
open Go.RowKit
set_option maxRecDepth 100000
set_option linter.unusedVariables false
set_option linter.unusedSimpArgs false

theorem fl_tu : Tryd.prog.underlying 72 = some (.slice 79) := by kernel_rfl
theorem len_flds (w : World) (a : Option Addr) (m k : Nat) : (Builtin.len_ #[72] 3 #[.slice a m k]).run Tryd.prog w = .ok (.int .i64 m) w := by
  simp [Builtin.len_, run_underlying fl_tu, goInt, Builtin.lenOf]
theorem data_last {c : List UInt8 × List Fd} (hc : c ∈ cmdTab) {i : Nat} {x : Fd} (hx : c.2[i]? = some x) : Wi.Fd.isDat x = true → Wi.holdsD (c.2.drop (i + 1)) = false := by
  intro hd
  have h := (dat_last c hc).2
  have hi : i < c.2.length := (List.getElem?_eq_some_iff.1 hx).1
  rcases Nat.lt_or_ge (i + 1) c.2.length with h1 | h1
  · have : x ∈ c.2.dropLast := by
      rw [List.dropLast_eq_take]
      exact List.mem_of_getElem? (i := i) (by rw [List.getElem?_take, if_pos (by omega)]; exact hx)
    rw [h x this] at hd
    cases hd
  · rw [List.drop_of_length_le h1]; rfl

/-- The loop of DecodePacket, behind i fields. -/
def DecI (w W : World) (g o c : Nat) (l l' : List UInt8) (b : UInt8) (r L fg : Nat) (fs : List Fd) (i : Nat) (a : Act) (w' : World) : Prop :=
  ∃ p pv at_, (∃ U : Nat → Value, a = ⟨#[.slice (some ⟨g, o, none⟩) l.length c, U 1, .pointer (some ⟨w.heap.size, 0, none⟩), .int .i64 0, .int .i64 0, .pointer (some ⟨L, 0, none⟩), .pointer (some ⟨r, 0, none⟩), U 7, U 8, U 9, U 10, U 11, U 12, U 13, U 14, U 15, U 16, U 17, U 18, U 19, U 20, U 21, U 22, U 23, U 24, U 25, U 26, U 27, U 28, U 29, .slice (some ⟨fg, 0, none⟩) fs.length fs.length, .int .i64 fs.length, .int .i64 i, U 33, U 34, U 35, U 36, U 37, U 38, U 39, U 40, U 41, U 42, U 43, U 44, U 45, U 46, U 47, U 48, U 49, U 50, U 51, U 52, U 53, U 54, U 55, U 56, U 57, U 58, U 59, U 60, U 61, U 62, U 63, U 64, U 65, U 66, U 67, U 68, U 69], []⟩) ∧
    Wi.Pk.Ok p ∧ PkAt w' L p pv ∧ OB w.heap.size w' pv p.data ∧ pv.ownBlock ≠ some r ∧ pv.ownBlock ≠ some L ∧ RdAt w' r (.slice (some ⟨g, o, none⟩) l.length c) at_ ∧ at_ ≤ l.length ∧ (Wi.holdsD (fs.drop i) = true → p.data = []) ∧
    Wi.rdAll fs (Wi.Pk.zero b.toNat) l' = Wi.rdAll (fs.drop i) p (l.drop at_) ∧ Gr2 W w' r L

set_option maxHeartbeats 8000000 in
theorem decP_known {w : World} {g o c : Nat} {b : UInt8} {l' : List UInt8} (hr : RB w (.slice (some ⟨g, o, none⟩) (b :: l').length c) (b :: l')) (hS : Szs w) (hk : knownB b.toNat = true) :
    Calls Tryd.prog 26 #[.slice (some ⟨g, o, none⟩) (b :: l').length c] w (DecPost w (b :: l')) := by
  obtain ⟨hk1', hk2'⟩ : 1 ≤ ((b.toNat : Nat) : Int) ∧ ((b.toNat : Nat) : Int) < 26 := by simpa [knownB] using hk
  obtain ⟨kk, c', hcmd, hkk1, hc'⟩ := cmd_some hk1' hk2'
  obtain rfl : kk = b.toNat := by omega
  clear hcmd
  have hz := heap_new w (.cells (pkL (Wi.Pk.zero 0) (.slice none 0 0)).toArray 34) w.heap.size rfl
  have hb0 := below_alloc1 w (.cells (pkL (Wi.Pk.zero 0) (.slice none 0 0)).toArray 34)
  have hs0 : (w.alloc (.cells (pkL (Wi.Pk.zero 0) (.slice none 0 0)).toArray 34)).heap.size = w.heap.size + 1 := by simp
  have hl0 : 0 < (b :: l').length := by simp
  have hl0I : ¬ (((b :: l').length : Nat) : Int) = 0 := by simp; omega
  obtain ⟨n, hn⟩ : ∃ n, n = (b :: l').length := ⟨_, rfl⟩
  rw [← hn] at hr hl0 hl0I ⊢
  have Hn := Lib.hid hn
  clear hn
  go_enter Tryd.func26, Tryd.ntmps26
  go_upto_region 0 with fail
  rename_i hnext
  refine wp_region_lit ?_
  refine Og.st_start (n := 70) rfl fun a hF => ?_
  refine Og.st_val (w' := w.alloc (.cells (pkL (Wi.Pk.zero 0) (.slice none 0 0)).toArray 34)) (.pointer (some ⟨w.heap.size, 0, none⟩)) hF rfl rfl (by decide) (alloc_pk rfl w) fun a hF => ?_
  generalize w.alloc (.cells (pkL (Wi.Pk.zero 0) (.slice none 0 0)).toArray 34) = w0 at *
  refine Og.st_same (.int .i64 0) hF rfl rfl (by decide) rfl fun a hF => ?_
  refine Og.st_same (.int .i64 0) hF rfl rfl (by decide) rfl fun a hF => ?_
  refine wpList_nil ?_
  obtain ⟨U, rfl⟩ := Og.Fr.lit_ex hF (fun U => ⟨#[.slice (some ⟨g, o, none⟩) n c, U 1, .pointer (some ⟨w.heap.size, 0, none⟩), .int .i64 0, .int .i64 0, U 5, U 6, U 7, U 8, U 9, U 10, U 11, U 12, U 13, U 14, U 15, U 16, U 17, U 18, U 19, U 20, U 21, U 22, U 23, U 24, U 25, U 26, U 27, U 28, U 29, U 30, U 31, U 32, U 33, U 34, U 35, U 36, U 37, U 38, U 39, U 40, U 41, U 42, U 43, U 44, U 45, U 46, U 47, U 48, U 49, U 50, U 51, U 52, U 53, U 54, U 55, U 56, U 57, U 58, U 59, U 60, U 61, U 62, U 63, U 64, U 65, U 66, U 67, U 68, U 69], []⟩) (by kernel_rfl)
  clear hF
  refine hnext _ _ ?_
  clear hnext
  go_upto_region 3 with fail
  rename_i hnext
  have hr0 := hr.below hb0
  have hcell := cell_of_rb hr0 0 b rfl
  rw [Nat.add_zero] at hcell
  refine wp_region_lit ?_
  refine Og.st_start (n := 70) rfl fun a hF => ?_
  refine Og.st_same (.slice (some ⟨g, o, none⟩) n c) hF rfl rfl (by decide) rfl fun a hF => ?_
  refine Og.st_same (.pointer (some ⟨g, o, none⟩)) hF rfl rfl (by decide) (exec_idx rfl (idx0 w0 g o n c hl0)) fun a hF => ?_
  refine Og.st_same (bv b) hF rfl rfl (by decide) (Og.exec_load rfl (ld_byte hcell)) fun a hF => ?_
  refine Og.st_same (.int .i64 (b.toNat : Nat)) hF rfl rfl (by decide) (exec_conv rfl (cv_byte w0 b)) fun a hF => ?_
  refine Og.st_same (.agg (pkL (Wi.Pk.zero (b.toNat : Nat)) (.slice none 0 0)).toArray) hF rfl rfl (by decide) (build_cmd rfl rfl w0) fun a hF => ?_
  refine Og.st_val (w' := w0.alloc (.cells (pkL (Wi.Pk.zero 0) (.slice none 0 0)).toArray 34)) (.pointer (some ⟨w0.heap.size, 0, none⟩)) hF rfl rfl (by decide) (alloc_pk rfl w0) fun a hF => ?_
  have hz2 := heap_new w0 (.cells (pkL (Wi.Pk.zero 0) (.slice none 0 0)).toArray 34) w0.heap.size rfl
  refine Og.st_skip (w' := (w0.alloc (.cells (pkL (Wi.Pk.zero 0) (.slice none 0 0)).toArray 34)).setCells w0.heap.size 0 (pkL (Wi.Pk.zero (b.toNat : Nat)) (.slice none 0 0))) hF rfl rfl
    (exec_store (o := 0) (vs := pkL (Wi.Pk.zero (b.toNat : Nat)) (.slice none 0 0)) (cs := pkL (Wi.Pk.zero 0) (.slice none 0 0)) rfl rfl rfl hz2 (by rw [pkL_length (Wi.Pk.zero_ok 0), pkL_length (Wi.Pk.zero_ok _)]; decide) (by rw [pkL_length (Wi.Pk.zero_ok _)]; exact pk_i) (pkL_one (Wi.Pk.zero _) _ rfl)) fun a hF => ?_
  have hP1 := PkAt.store hz2 0 _ (Wi.Pk.zero (b.toNat : Nat)) (.slice none 0 0) (set_all (Wi.Pk.zero_ok _) (Wi.Pk.zero_ok 0))
  have hb1 : Below w0.heap.size w0 ((w0.alloc (.cells (pkL (Wi.Pk.zero 0) (.slice none 0 0)).toArray 34)).setCells w0.heap.size 0 (pkL (Wi.Pk.zero (b.toNat : Nat)) (.slice none 0 0))) :=
    (below_alloc1 w0 _).grown (setCells_grown _ w0.heap.size 0 _) (by simp) (fun k hk => by injection hk with hk; omega)
  generalize (w0.alloc (.cells (pkL (Wi.Pk.zero 0) (.slice none 0 0)).toArray 34)).setCells w0.heap.size 0 (pkL (Wi.Pk.zero (b.toNat : Nat)) (.slice none 0 0)) = w1 at *
  refine wpList_nil ?_
  have hz1 := blk_below hz hb1
  have hb01 := hb0.trans (hb1.mono hb0.size)
  rw [hs0] at *
  obtain ⟨U, rfl⟩ := Og.Fr.lit_ex hF (fun U => ⟨#[.slice (some ⟨g, o, none⟩) n c, U 1, .pointer (some ⟨w.heap.size, 0, none⟩), .int .i64 0, .int .i64 0, .pointer (some ⟨w.heap.size + 1, 0, none⟩), U 6, U 7, U 8, U 9, U 10, U 11, U 12, U 13, U 14, U 15, U 16, U 17, U 18, U 19, U 20, U 21, U 22, U 23, U 24, U 25, U 26, U 27, U 28, U 29, U 30, U 31, U 32, U 33, U 34, U 35, U 36, U 37, U 38, U 39, U 40, U 41, U 42, U 43, U 44, U 45, U 46, U 47, U 48, U 49, U 50, U 51, U 52, U 53, U 54, U 55, U 56, U 57, U 58, U 59, U 60, U 61, U 62, U 63, U 64, U 65, U 66, U 67, U 68, U 69], []⟩) (by kernel_rfl)
  clear hF
  refine hnext _ _ ?_
  clear hnext
  have hc0 := hP1.c0
  have hLlt := hP1.lt
  have hs1 := hb1.size
  go_wp2_with fail
  refine (known_calls _ (b.toNat : Nat)).out.mono ?_
  rintro e w2 ⟨rfl, hb2⟩
  rw [hk]
  have hz2 := blk_below hz1 hb2
  have hP2 := hP1.below hb2
  have hb02 := hb01.trans (hb2.mono hb01.size)
  have hs2 : w.heap.size + 2 ≤ w2.heap.size := by have := hb2.size; omega
  go_wp2_with fail
  obtain ⟨w3, hw3⟩ : ∃ w3, w3 = w2.alloc (.cells #[.slice (some ⟨g, o, none⟩) n c, .int .i64 1] 91) := ⟨_, rfl⟩
  have hb3 : Below w2.heap.size w2 w3 := by rw [hw3]; exact below_alloc1 _ _
  have hr3 : RdAt w3 w2.heap.size (.slice (some ⟨g, o, none⟩) n c) 1 := by rw [hw3]; exact heap_new w2 _ _ rfl
  rw [← hw3]
  clear hw3
  have hz3 := blk_below hz2 hb3
  have hP3 := hP2.below hb3
  have hb03 := hb02.trans (hb3.mono hb02.size)
  refine Og.wp_region_og _ (fun j => j == 4 || j == 5 || j == 6)
    (Og.Vt [undef, .pointer (some ⟨w.heap.size + 1, 0, none⟩), .int .i64 b.toNat, undef, undef, .int .i64 c'.2.length, .int .i64 0] [(0, (fun u w' => ∃ n, u = .agg (cmdCells n).toArray ∧ CmdsAt w3.heap.size n w')), (3, (fun u w' => ∃ n, u = cmdE n b.toNat c' ∧ CmdsAt w3.heap.size n w')), (4, (fun u w' => ∃ g, u = .slice (some ⟨g, 0, none⟩) c'.2.length c'.2.length ∧ FldsAt w' g c'.2 ∧ w3.heap.size ≤ g))])
    (fun w' => Below w3.heap.size w3 w')
    (fun j w' => True) 70 rfl (by kernel_rfl) (by kernel_rfl) (Below.drew (Below.refl _ _)) (fun _ _ => trivial) (Og.allOps ⟨?_, ?_, ?_, ?_, ?_, ?_, ?_, trivial⟩) ?_
  · refine Og.ok_gcall_fn _ _ _ _ ?_ ?_ ?_ rfl rfl fun φ w4 hA => ?_
    · intro x hx u' w5 w6 hu hb
      simp only [List.mem_cons, List.not_mem_nil, or_false] at hx
      rcases hx with rfl | rfl | rfl
      · obtain ⟨n, e, h⟩ := hu; exact ⟨n, e, h.below hb⟩
      · obtain ⟨n, e, h⟩ := hu; exact ⟨n, e, h.below hb⟩
      · obtain ⟨n, e, h, h'⟩ := hu; exact ⟨n, e, blk_below h hb, h'⟩
    · exact fun w5 w6 hR hb => hR.trans (hb.mono hR.size)
    · exact fun j w5 w6 hT hb => trivial
    · refine ⟨_, #[], cmd_enter, rfl, by simp, (commands_calls w4).mono ?_⟩
      rintro e w5 ⟨n, rfl, hn, hb⟩
      exact ⟨_, rfl, ⟨n, rfl, fun i c hi hc => ⟨(hn i c hi hc).1, Nat.le_trans hA.keep.size (hn i c hi hc).2⟩⟩, hb⟩
  · refine Og.ok_val _ rfl rfl fun φ w4 hA => ?_
    have e1 : φ 5 = .pointer (some ⟨w.heap.size + 1, 0, none⟩) := hA.old 5 (by kernel_rfl)
    simp only [execOp, Og.ev, e1]
    go_simp
  · refine Og.ok_val _ rfl rfl fun φ w4 hA => ?_
    have e16 : φ 27 = .pointer (some ⟨w.heap.size + 1, 0, none⟩) := hA.of 1 (d := 27) (by simp) rfl rfl
    have hc0 : w4.cell? ⟨w.heap.size + 1, 0, none⟩ = some (.int .i64 (b.toNat : Nat)) := (hP3.below hA.keep).c0
    simp only [execOp, Og.ev, e16]
    go_simp
  · refine Og.ok_wval _ rfl fun φ w4 hA => ?_
    obtain ⟨n, e15, hn⟩ := hA.of 0 (d := 26) (by simp) rfl rfl
    have e17 : φ 28 = .int .i64 b.toNat := hA.of 2 (d := 28) (by simp) rfl rfl
    refine ⟨cmdE n b.toNat c', w4, ?_, hA.keep, ⟨n, rfl, hn⟩, fun _ _ h => h, fun _ _ _ _ h => h⟩
    exact Og.exec_index rfl (by simp only [Og.ev]; rw [e15, e17]; exact cmd_index n w4 b.toNat c' hkk1 hc')
  · refine Og.ok_wval _ rfl fun φ w4 hA => ?_
    obtain ⟨n, e18, hn⟩ := hA.of 3 (d := 29) (by simp) rfl rfl
    have h := hn b.toNat c' hkk1 hc'
    refine ⟨.slice (some ⟨n b.toNat, 0, none⟩) c'.2.length c'.2.length, w4, ?_, hA.keep, ⟨n b.toNat, rfl, h.1, h.2⟩, fun _ _ h => h, fun _ _ _ _ h => h⟩
    exact Og.exec_field rfl (by simp only [Og.ev]; rw [e18]; exact cmd_f1 w4 _ _)
  · refine Og.ok_val _ rfl rfl fun φ w4 hA => ?_
    obtain ⟨g', e30, -, -⟩ := hA.of 4 (d := 30) (by simp) rfl rfl
    have hln := fun w => len_flds w (some ⟨g', 0, none⟩) c'.2.length c'.2.length
    simp only [execOp]
    go_simp
    simp only [Og.ev, e30, hln, Result.andThen_ok]
  · refine Og.ok_val _ rfl rfl fun φ w4 hA => ?_
    simp only [execOp, Og.ev]
    go_simp
  · rename_i hnext
    intro φ a w4 hF hR h0 hV hN
    obtain ⟨fg, e30, hfg, hfgB⟩ := hV 4 _ 30 rfl rfl rfl
    have e31 : φ 31 = .int .i64 c'.2.length := hV 5 _ 31 rfl rfl rfl
    have e32 : φ 32 = .int .i64 0 := hV 6 _ 32 rfl rfl rfl
    have e0 : φ 0 = .slice (some ⟨g, o, none⟩) n c := h0 0 (by kernel_rfl)
    have e2 : φ 2 = .pointer (some ⟨w.heap.size, 0, none⟩) := h0 2 (by kernel_rfl)
    have e3 : φ 3 = .int .i64 0 := h0 3 (by kernel_rfl)
    have e4 : φ 4 = .int .i64 0 := h0 4 (by kernel_rfl)
    have e5 : φ 5 = .pointer (some ⟨w.heap.size + 1, 0, none⟩) := h0 5 (by kernel_rfl)
    have e6 : φ 6 = .pointer (some ⟨w2.heap.size, 0, none⟩) := h0 6 (by kernel_rfl)
    have ea : ∃ U : Nat → Value, a = ⟨#[.slice (some ⟨g, o, none⟩) n c, U 1, .pointer (some ⟨w.heap.size, 0, none⟩), .int .i64 0, .int .i64 0, .pointer (some ⟨w.heap.size + 1, 0, none⟩), .pointer (some ⟨w2.heap.size, 0, none⟩), U 7, U 8, U 9, U 10, U 11, U 12, U 13, U 14, U 15, U 16, U 17, U 18, U 19, U 20, U 21, U 22, U 23, U 24, U 25, U 26, U 27, U 28, U 29, .slice (some ⟨fg, 0, none⟩) c'.2.length c'.2.length, .int .i64 c'.2.length, .int .i64 0, U 33, U 34, U 35, U 36, U 37, U 38, U 39, U 40, U 41, U 42, U 43, U 44, U 45, U 46, U 47, U 48, U 49, U 50, U 51, U 52, U 53, U 54, U 55, U 56, U 57, U 58, U 59, U 60, U 61, U 62, U 63, U 64, U 65, U 66, U 67, U 68, U 69], []⟩ := ⟨φ, by
      rw [hF.lit_eq, show ((List.range 70).map φ).toArray = #[φ 0, φ 1, φ 2, φ 3, φ 4, φ 5, φ 6, φ 7, φ 8, φ 9, φ 10, φ 11, φ 12, φ 13, φ 14, φ 15, φ 16, φ 17, φ 18, φ 19, φ 20, φ 21, φ 22, φ 23, φ 24, φ 25, φ 26, φ 27, φ 28, φ 29, φ 30, φ 31, φ 32, φ 33, φ 34, φ 35, φ 36, φ 37, φ 38, φ 39, φ 40, φ 41, φ 42, φ 43, φ 44, φ 45, φ 46, φ 47, φ 48, φ 49, φ 50, φ 51, φ 52, φ 53, φ 54, φ 55, φ 56, φ 57, φ 58, φ 59, φ 60, φ 61, φ 62, φ 63, φ 64, φ 65, φ 66, φ 67, φ 68, φ 69] by kernel_rfl, e0, e2, e3, e4, e5, e6, e30, e31, e32]⟩
    clear hF h0 hV hN e0 e2 e3 e4 e5 e6 e30 e31 e32
    obtain ⟨U, rfl⟩ := ea
    refine hnext _ _ ?_
    clear hnext
    obtain ⟨l, hlb⟩ : ∃ l, l = b :: l' := ⟨_, rfl⟩
    have hn := Hn.out
    rw [← hlb] at hr hn ⊢
    subst hn
    have Hlb := Lib.hid hlb
    clear hlb Hn hcell hr0
    have hbW := hb03.trans (hR.mono hb03.size)
    have hz4 := blk_below hz3 hR
    have hr4 := hr3.below hR
    have hP4 := hP3.below hR
    have hs4 : w3.heap.size ≤ w4.heap.size := hR.size
    have hs3 : w2.heap.size < w3.heap.size := hr3.lt
    have hgl : g < w.heap.size := hr.block (by rw [Hlb.out]; simp) g rfl
    have hll := hr.len
    have hmem := List.mem_of_getElem? hc'
    have hfok := fields_ok c' hmem
    obtain ⟨h5, -⟩ := dat_last c' hmem
    have Hdl := Lib.hid (fun (i : Nat) (x : Fd) (hx : c'.2[i]? = some x) => data_last hmem hx)
    have Hf : Hid (Wi.fieldsOf b.toNat = c'.2) := by
      show _ = _
      unfold Wi.fieldsOf
      rw [show ((b.toNat : Int)).toNat = b.toNat from rfl, hc']; rfl
    have hcc : l.length ≤ c ∧ c ≤ maxLen := by
      obtain ⟨p1, c1, e, e1, e2, e3, -⟩ := hr
      simp only [Value.slice.injEq] at e
      obtain ⟨-, -, rfl⟩ := e
      exact ⟨e1, e2⟩
    obtain ⟨hcc, hccm⟩ := hcc
    have Hun : Hid (Wi.unpack l = Wi.fin l.length (Wi.rdAll c'.2 (Wi.Pk.zero b.toNat) l')) := by
      show _ = _
      rw [Hlb.out, Wi.unpack_known hk, Hf.out]
    generalize hfs : c'.2 = fs at *
    clear hfs hc' hmem hR hz3 hr3 hP3 hz2 hP2 hz1 hP1 hb1 hb2 hb3 hb01 hb02 hb03 hz hb0
    obtain ⟨L, hL⟩ : ∃ L, L = w.heap.size + 1 := ⟨_, rfl⟩
    obtain ⟨r, hre⟩ : ∃ r, r = w2.heap.size := ⟨_, rfl⟩
    rw [← hL] at hP4 ⊢
    rw [← hre] at hr4 ⊢
    have hLw : w.heap.size < L := by omega
    have hrL : L < r := by omega
    have hfr : r < fg := by omega
    have hfg4 := heap_lt hfg
    have hLlt4 := hP4.lt
    have hrlt4 := hr4.lt
    have hzlt4 := heap_lt hz4
    clear hL hre
    go_wp2_with fail
    refine wp_loop_count (DecI w w4 g o c l l' b r L fg fs) fs.length ?_ ?_ ?_
    · exact ⟨Wi.Pk.zero b.toNat, .slice none 0 0, 1, exU (fun U => ⟨#[.slice (some ⟨g, o, none⟩) l.length c, U 1, .pointer (some ⟨w.heap.size, 0, none⟩), .int .i64 0, .int .i64 0, .pointer (some ⟨L, 0, none⟩), .pointer (some ⟨r, 0, none⟩), U 7, U 8, U 9, U 10, U 11, U 12, U 13, U 14, U 15, U 16, U 17, U 18, U 19, U 20, U 21, U 22, U 23, U 24, U 25, U 26, U 27, U 28, U 29, .slice (some ⟨fg, 0, none⟩) fs.length fs.length, .int .i64 fs.length, .int .i64 0, U 33, U 34, U 35, U 36, U 37, U 38, U 39, U 40, U 41, U 42, U 43, U 44, U 45, U 46, U 47, U 48, U 49, U 50, U 51, U 52, U 53, U 54, U 55, U 56, U 57, U 58, U 59, U 60, U 61, U 62, U 63, U 64, U 65, U 66, U 67, U 68, U 69], []⟩) rfl, Wi.Pk.zero_ok _, hP4, OB.nil_ _ _, by simp [Value.ownBlock], by simp [Value.ownBlock], hr4, by rw [Hlb.out]; simp, fun _ => rfl, by rw [Hlb.out]; rfl, Gr2.refl _ _ _⟩
    · rintro i a w5 hi ⟨p, pv, at_, ⟨U, rfl⟩, hp, hP5, hd, hvr, hvL, hR5, hat, hda, heq, hg5⟩
      obtain ⟨x, hx⟩ : ∃ x, fs[i]? = some x := ⟨fs[i], List.getElem?_eq_getElem hi⟩
      have hb5 : Below w.heap.size w w5 := hbW.trans (hg5.belowB (by omega) (by omega) hbW.size)
      have hr5 := hr.below hb5
      have hS5 := hS.below hb5
      have hfg5 : FldsAt w5 fg fs := (hg5.block fg hfg4 (by omega) (by omega)).trans hfg
      have hcell := hfg5.cell hx
      have hfglt5 := heap_lt hfg5
      have hdrop : fs.drop i = x :: fs.drop (i + 1) := by
        rw [List.drop_eq_getElem_cons hi]
        rw [List.getElem?_eq_getElem hi] at hx
        injection hx with hx
        rw [hx]
      have hxok := hfok x (List.mem_of_getElem? hx)
      have hil : (i : Int) < (fs.length : Int) := by exact_mod_cast hi
      have h5I : (i : Int) < 5 := by omega
      have hi0 : (0 : Int) ≤ (i : Int) := Int.natCast_nonneg i
      have hd0 : Wi.Fd.isDat x = true → p.data = [] := fun h => hda (by unfold Wi.holdsD; rw [hdrop, List.any_cons, h]; rfl)
      have hcall := read_calls (B := w.heap.size) x hxok hR5 hr5 (by omega) (by omega) (by omega) hP5 hp hS5 hat hcc hccm hll hb5.size hd hd0 hvr hvL
      have Hdx := Lib.hid (Hdl.out i x hx)
      have Hda := Lib.hid hda
      have Hdrop := Lib.hid hdrop
      have Heq := Lib.hid heq
      have Hp := Lib.hid hp
      obtain ⟨res, hres⟩ : ∃ res, res = Wi.rdF p x (l.drop at_) := ⟨_, rfl⟩
      rw [← hres] at hcall
      have Hres := Lib.hid hres
      generalize hfx : fdV x = fx at *
      clear hfx hx hda hdrop heq hp hi hxok hd0 hres hP5 hd hR5 hat hr5 hS5 hfg5
      go_wp2_with fail
      refine hcall.mono ?_
      intro e w6 hpost
      cases res with
      | ok q rest =>
        obtain ⟨rfl, ⟨pv', hP6, hd6, hvr6, hvL6⟩, hR6, hg6⟩ := hpost
        have Hsuf := Lib.hid (Wi.rdF_suffix.1 q rest Hres.out.symm)
        go_wp2_with fail
        refine ⟨q, pv', l.length - rest.length, exU (fun U => ⟨#[.slice (some ⟨g, o, none⟩) l.length c, U 1, .pointer (some ⟨w.heap.size, 0, none⟩), .int .i64 0, .int .i64 0, .pointer (some ⟨L, 0, none⟩), .pointer (some ⟨r, 0, none⟩), U 7, U 8, U 9, U 10, U 11, U 12, U 13, U 14, U 15, U 16, U 17, U 18, U 19, U 20, U 21, U 22, U 23, U 24, U 25, U 26, U 27, U 28, U 29, .slice (some ⟨fg, 0, none⟩) fs.length fs.length, .int .i64 fs.length, .int .i64 (i + 1 : Nat), U 33, U 34, U 35, U 36, U 37, U 38, U 39, U 40, U 41, U 42, U 43, U 44, U 45, U 46, U 47, U 48, U 49, U 50, U 51, U 52, U 53, U 54, U 55, U 56, U 57, U 58, U 59, U 60, U 61, U 62, U 63, U 64, U 65, U 66, U 67, U 68, U 69], []⟩) rfl, Wi.rdF_ok Hp.out Hres.out.symm, hP6, hd6, hvr6, hvL6, hR6, Nat.sub_le _ _, ?_, ?_, hg5.trans hg6⟩
        · intro hh
          cases hdx : Wi.Fd.isDat x with
          | true => rw [Hdx.out hdx] at hh; cases hh
          | false =>
            rw [Wi.rdF_data Hres.out.symm hdx]
            refine Hda.out ?_
            unfold Wi.holdsD at hh ⊢
            rw [Hdrop.out, List.any_cons, hh, Bool.or_true]
        · rw [Heq.out, Hdrop.out, Wi.rdAll, ← Hres.out]
          have hs : rest <:+ l := Hsuf.out.trans (List.drop_suffix _ _)
          simp only
          rw [← List.suffix_iff_eq_drop.1 hs]
      | bad rest =>
        obtain ⟨rfl, hR6, hg6⟩ := hpost
        have hsuf := (Wi.rdF_suffix (p := p) (x := x) (l := l.drop at_)).2 rest Hres.out.symm
        have hs : rest <:+ l := hsuf.trans (List.drop_suffix _ _)
        have hsl := hs.length_le
        have hg46 := hg5.trans hg6
        have hb6 : Below w.heap.size w w6 := hbW.trans (hg46.belowB (by omega) (by omega) hbW.size)
        have hz6 : PkAt w6 w.heap.size (Wi.Pk.zero 0) (.slice none 0 0) := (hg46.block w.heap.size hzlt4 (by omega) (by omega)).trans hz4
        have hbad : Wi.rdAll fs (Wi.Pk.zero b.toNat) l' = .bad rest := by
          rw [Heq.out, Hdrop.out, Wi.rdAll, ← Hres.out]
        have h61 := hR6.c1
        have hrlt6 := hR6.lt
        cases rest with
        | nil =>
          have Hu : Hid (Wi.unpack l = (Wi.Pk.zero 0, l.length, 71)) := by
            show _ = _
            rw [Hun.out, hbad]; rfl
          have hbe : ((l.length : Int) == (l.length : Int)) = true := beq_self_eq_true _
          rw [List.length_nil, Nat.sub_zero] at h61 hR6
          clear hbad hs hsl hsuf
          go_upto_region 12 with fail
          refine Og.wp_region_og _ (fun j => j == 6 || j == 7)
            (Og.Vt [.agg (pkL (Wi.Pk.zero 0) (.slice none 0 0)).toArray, .pointer (some ⟨r, 0, none⟩), .pointer (some ⟨r, 0, none⟩), .pointer (some ⟨r, 1, none⟩), .int .i64 (l.length : Nat), undef, .int .i64 (l.length : Nat), .int .i64 71] [(5, fun _ _ => True)])
            (fun w' => PkAt w' w.heap.size (Wi.Pk.zero 0) (.slice none 0 0) ∧ RdAt w' r (.slice (some ⟨g, o, none⟩) l.length c) l.length ∧ Below w.heap.size w w')
            (fun _ _ => True) 70 rfl (by kernel_rfl) (by kernel_rfl) ⟨hz6.below (Below.drew (Below.refl _ _)), hR6.below (Below.drew (Below.refl _ _)), hb6.trans (Below.drew (Below.refl _ _))⟩ (fun _ _ => trivial) (Og.allOps ⟨?_, ?_, ?_, ?_, ?_, ?_, ?_, ?_, trivial⟩) ?_
          · exact Og.ok_val _ rfl rfl fun φ w7 hA => build_zero rfl w7
          · refine Og.ok_val _ rfl rfl fun φ w7 hA => ?_
            have e6 : φ 6 = .pointer (some ⟨r, 0, none⟩) := hA.old 6 (by kernel_rfl)
            simp only [execOp, Og.ev, e6]
            go_simp
          · refine Og.ok_val _ rfl rfl fun φ w7 hA => ?_
            have e6 : φ 47 = .pointer (some ⟨r, 0, none⟩) := hA.of 1 (d := 47) (by simp) rfl rfl
            simp only [execOp, Og.ev, e6]
            go_simp
          · refine Og.ok_val _ rfl rfl fun φ w7 hA => ?_
            have e6 : φ 48 = .pointer (some ⟨r, 0, none⟩) := hA.of 2 (d := 48) (by simp) rfl rfl
            simp only [execOp, Og.ev, e6]
            go_simp
          · refine Og.ok_val _ rfl rfl fun φ w7 hA => ?_
            have e6 : φ 49 = .pointer (some ⟨r, 1, none⟩) := hA.of 3 (d := 49) (by simp) rfl rfl
            have h71 := hA.keep.2.1.c1
            simp only [execOp, Og.ev, e6]
            go_simp
          · refine Og.ok_wskip _ rfl fun φ w7 hA => ?_
            have e2 : φ 2 = .pointer (some ⟨w.heap.size, 0, none⟩) := hA.old 2 (by kernel_rfl)
            have e46 : φ 46 = .agg (pkL (Wi.Pk.zero 0) (.slice none 0 0)).toArray := hA.of 0 (d := 46) (by simp) rfl rfl
            obtain ⟨hz7, hR7, hb7⟩ := hA.keep
            refine ⟨w7.setCells w.heap.size 0 (pkL (Wi.Pk.zero 0) (.slice none 0 0)), exec_store (o := 0) (vs := pkL (Wi.Pk.zero 0) (.slice none 0 0)) (cs := pkL (Wi.Pk.zero 0) (.slice none 0 0)) rfl e2 (by show (φ 46).cells = _; rw [e46]; rfl) hz7 (Nat.le_of_eq (by simp)) (by rw [pkL_length (Wi.Pk.zero_ok 0)]; exact pk_i) (pkL_one (Wi.Pk.zero 0) _ rfl), ⟨PkAt.store hz7 0 _ _ _ set_zero, blk_grown hR7 (setCells_grown w7 w.heap.size 0 _) (fun e => by injection e; omega), hb7.grown (setCells_grown w7 w.heap.size 0 _) hb7.size (fun k hk => by injection hk with hk; omega)⟩, trivial, fun _ _ h => h, fun x hx _ u _ => by simp only [List.mem_cons, List.not_mem_nil, or_false] at hx; subst hx; trivial⟩
          · refine Og.ok_val _ rfl rfl fun φ w7 hA => ?_
            have e6 : φ 50 = .int .i64 (l.length : Nat) := hA.of 4 (d := 50) (by simp) rfl rfl
            simp only [execOp, Og.ev, e6]
            go_simp
          · refine Og.ok_val _ rfl rfl fun φ w7 hA => ?_
            simp only [execOp, Og.ev]
            go_simp
          · rename_i hnext
            intro φ a w7 hF hR h0 hV hN
            have e2 : φ 2 = .pointer (some ⟨w.heap.size, 0, none⟩) := h0 2 (by kernel_rfl)
            have e3 : φ 3 = .int .i64 (l.length : Nat) := hV 6 _ 3 rfl rfl rfl
            have e4 : φ 4 = .int .i64 71 := hV 7 _ 4 rfl rfl rfl
            refine hnext _ _ (wp_ret ?_)
            simp only [Exit.inBlock, Exit.then]
            refine bodyPost_ret (dec_res _ ((hF.2.2 2).trans e2) hR.1 (Wi.Pk.zero_ok 0)) hF.1 ?_
            rw [hF.2.2 3, hF.2.2 4, e3, e4]
            (try rw [← Hlb.out])
            show DecPost w l _ _
            unfold DecPost
            rw [Hu.out]
            exact ⟨.slice none 0 0, rfl, OB.nil_ _ _, hR.2.2⟩
        | cons d rr =>
          have hlt : l.length - (d :: rr).length < l.length := by
            simp only [List.length_cons] at hsl ⊢
            omega
          have Hu : Hid (Wi.unpack l = (Wi.Pk.zero 0, l.length - (d :: rr).length, 75)) := by
            show _ = _
            rw [Hun.out, hbad]; rfl
          obtain ⟨a6, ha6⟩ : ∃ a6, a6 = l.length - (d :: rr).length := ⟨_, rfl⟩
          rw [← ha6] at h61 hR6 hlt Hu
          have hbe : ((a6 : Int) == (l.length : Int)) = false := by
            have : ¬ (a6 : Int) = (l.length : Int) := by omega
            simpa using this
          clear hbad hs hsl hsuf ha6
          go_upto_region 13 with fail
          refine Og.wp_region_og _ (fun j => j == 6 || j == 7)
            (Og.Vt [.agg (pkL (Wi.Pk.zero 0) (.slice none 0 0)).toArray, .pointer (some ⟨r, 0, none⟩), .pointer (some ⟨r, 0, none⟩), .pointer (some ⟨r, 1, none⟩), .int .i64 (a6 : Nat), undef, .int .i64 (a6 : Nat), .int .i64 75] [(5, fun _ _ => True)])
            (fun w' => PkAt w' w.heap.size (Wi.Pk.zero 0) (.slice none 0 0) ∧ RdAt w' r (.slice (some ⟨g, o, none⟩) l.length c) a6 ∧ Below w.heap.size w w')
            (fun _ _ => True) 70 rfl (by kernel_rfl) (by kernel_rfl) ⟨hz6.below (Below.drew (Below.refl _ _)), hR6.below (Below.drew (Below.refl _ _)), hb6.trans (Below.drew (Below.refl _ _))⟩ (fun _ _ => trivial) (Og.allOps ⟨?_, ?_, ?_, ?_, ?_, ?_, ?_, ?_, trivial⟩) ?_
          · exact Og.ok_val _ rfl rfl fun φ w7 hA => build_zero rfl w7
          · refine Og.ok_val _ rfl rfl fun φ w7 hA => ?_
            have e6 : φ 6 = .pointer (some ⟨r, 0, none⟩) := hA.old 6 (by kernel_rfl)
            simp only [execOp, Og.ev, e6]
            go_simp
          · refine Og.ok_val _ rfl rfl fun φ w7 hA => ?_
            have e6 : φ 52 = .pointer (some ⟨r, 0, none⟩) := hA.of 1 (d := 52) (by simp) rfl rfl
            simp only [execOp, Og.ev, e6]
            go_simp
          · refine Og.ok_val _ rfl rfl fun φ w7 hA => ?_
            have e6 : φ 53 = .pointer (some ⟨r, 0, none⟩) := hA.of 2 (d := 53) (by simp) rfl rfl
            simp only [execOp, Og.ev, e6]
            go_simp
          · refine Og.ok_val _ rfl rfl fun φ w7 hA => ?_
            have e6 : φ 54 = .pointer (some ⟨r, 1, none⟩) := hA.of 3 (d := 54) (by simp) rfl rfl
            have h71 := hA.keep.2.1.c1
            simp only [execOp, Og.ev, e6]
            go_simp
          · refine Og.ok_wskip _ rfl fun φ w7 hA => ?_
            have e2 : φ 2 = .pointer (some ⟨w.heap.size, 0, none⟩) := hA.old 2 (by kernel_rfl)
            have e46 : φ 51 = .agg (pkL (Wi.Pk.zero 0) (.slice none 0 0)).toArray := hA.of 0 (d := 51) (by simp) rfl rfl
            obtain ⟨hz7, hR7, hb7⟩ := hA.keep
            refine ⟨w7.setCells w.heap.size 0 (pkL (Wi.Pk.zero 0) (.slice none 0 0)), exec_store (o := 0) (vs := pkL (Wi.Pk.zero 0) (.slice none 0 0)) (cs := pkL (Wi.Pk.zero 0) (.slice none 0 0)) rfl e2 (by show (φ 51).cells = _; rw [e46]; rfl) hz7 (Nat.le_of_eq (by simp)) (by rw [pkL_length (Wi.Pk.zero_ok 0)]; exact pk_i) (pkL_one (Wi.Pk.zero 0) _ rfl), ⟨PkAt.store hz7 0 _ _ _ set_zero, blk_grown hR7 (setCells_grown w7 w.heap.size 0 _) (fun e => by injection e; omega), hb7.grown (setCells_grown w7 w.heap.size 0 _) hb7.size (fun k hk => by injection hk with hk; omega)⟩, trivial, fun _ _ h => h, fun x hx _ u _ => by simp only [List.mem_cons, List.not_mem_nil, or_false] at hx; subst hx; trivial⟩
          · refine Og.ok_val _ rfl rfl fun φ w7 hA => ?_
            have e6 : φ 55 = .int .i64 (a6 : Nat) := hA.of 4 (d := 55) (by simp) rfl rfl
            simp only [execOp, Og.ev, e6]
            go_simp
          · refine Og.ok_val _ rfl rfl fun φ w7 hA => ?_
            simp only [execOp, Og.ev]
            go_simp
          · rename_i hnext
            intro φ a w7 hF hR h0 hV hN
            have e2 : φ 2 = .pointer (some ⟨w.heap.size, 0, none⟩) := h0 2 (by kernel_rfl)
            have e3 : φ 3 = .int .i64 (a6 : Nat) := hV 6 _ 3 rfl rfl rfl
            have e4 : φ 4 = .int .i64 75 := hV 7 _ 4 rfl rfl rfl
            refine hnext _ _ (wp_ret ?_)
            simp only [Exit.inBlock, Exit.then]
            refine bodyPost_ret (dec_res _ ((hF.2.2 2).trans e2) hR.1 (Wi.Pk.zero_ok 0)) hF.1 ?_
            rw [hF.2.2 3, hF.2.2 4, e3, e4]
            (try rw [← Hlb.out])
            show DecPost w l _ _
            unfold DecPost
            rw [Hu.out]
            exact ⟨.slice none 0 0, rfl, OB.nil_ _ _, hR.2.2⟩
    · rintro a w5 ⟨p, pv, at_, ⟨U, rfl⟩, hp, hP5, hd, hvr, hvL, hR5, hat, hda, heq, hg5⟩
      have hb6 : Below w.heap.size w w5 := hbW.trans (hg5.belowB (by omega) (by omega) hbW.size)
      have hz6 : PkAt w5 w.heap.size (Wi.Pk.zero 0) (.slice none 0 0) := (hg5.block w.heap.size hzlt4 (by omega) (by omega)).trans hz4
      rw [List.drop_length, Wi.rdAll] at heq
      have h61 := hR5.c1
      have hrlt6 := hR5.lt
      have Hp := Lib.hid hp
      by_cases he : at_ = l.length
      · have Hu : Hid (Wi.unpack l = (p, 0, 0)) := by
          show _ = _
          rw [Hun.out, heq, he, List.drop_length]; rfl
        have hlt : ¬ (at_ : Int) < (l.length : Int) := by omega
        clear heq hda hp he
        obtain ⟨pp, pc, hpv⟩ := hd.rb.form
        have hone : pv.oneCell' = true := by rw [hpv]; rfl
        clear hpv
        have hdR : pv.ownBlock ≠ some w.heap.size := hd.off hz6 (by decide)
        go_upto_region 17 with fail
        rename_i hnext
        refine wp_region_lit ?_
        refine Og.st_start (n := 70) rfl fun a hF => ?_
        refine Og.st_same (.agg (pkL p pv).toArray) hF rfl rfl (by decide) (Og.exec_load rfl (load_pk hP5 Hp.out)) fun a hF => ?_
        refine Og.st_skip (w' := w5.setCells w.heap.size 0 (pkL p pv)) hF rfl rfl
          (exec_store (o := 0) (vs := pkL p pv) (cs := pkL (Wi.Pk.zero 0) (.slice none 0 0)) rfl rfl rfl hz6 (by rw [pkL_length Hp.out, pkL_length (Wi.Pk.zero_ok 0)]; decide) (by rw [pkL_length Hp.out]; exact pk_i) (pkL_one p pv hone)) fun a hF => ?_
        have hP8 := PkAt.store hz6 0 _ p pv (set_all Hp.out (Wi.Pk.zero_ok 0))
        have hb8 : Below w.heap.size w (w5.setCells w.heap.size 0 (pkL p pv)) := hb6.grown (setCells_grown _ w.heap.size 0 _) hb6.size (fun k hk => by injection hk with hk; omega)
        have hd8 : OB w.heap.size (w5.setCells w.heap.size 0 (pkL p pv)) pv p.data := hd.kept (setCells_grown _ w.heap.size 0 _) (fun g' e e' => hdR (by rw [e, e']))
        generalize w5.setCells w.heap.size 0 (pkL p pv) = w8 at *
        refine Og.st_same (.int .i64 0) hF rfl rfl (by decide) rfl fun a hF => ?_
        refine Og.st_same (.int .i64 0) hF rfl rfl (by decide) rfl fun a hF => ?_
        refine wpList_nil ?_
        refine hnext _ _ (wp_ret ?_)
        (try simp only [Exit.inBlock, Exit.then])
        refine bodyPost_ret (dec_res _ (hF.2.2 2) hP8 Hp.out) hF.1 ?_
        rw [hF.2.2 3, hF.2.2 4]
        (try rw [← Hlb.out])
        show DecPost w l _ _
        unfold DecPost
        rw [Hu.out]
        exact ⟨pv, rfl, hd8, hb8⟩
      · obtain ⟨d, rr, hdr⟩ : ∃ d rr, l.drop at_ = d :: rr := ⟨l[at_]'(by omega), l.drop (at_ + 1), List.drop_eq_getElem_cons (by omega)⟩
        have hdl := congrArg List.length hdr
        rw [List.length_drop] at hdl
        have Hu : Hid (Wi.unpack l = (Wi.Pk.zero 0, at_, 76)) := by
          show _ = _
          rw [Hun.out, heq, hdr]
          show (Wi.Pk.zero 0, l.length - (d :: rr).length, 76) = _
          rw [← hdl, show l.length - (l.length - at_) = at_ by omega]
        have hlt : (at_ : Int) < (l.length : Int) := by omega
        clear heq hda hp he hdr hdl
        go_upto_region 16 with fail
        refine Og.wp_region_og _ (fun j => j == 6 || j == 7)
          (Og.Vt [.agg (pkL (Wi.Pk.zero 0) (.slice none 0 0)).toArray, .pointer (some ⟨r, 0, none⟩), .pointer (some ⟨r, 0, none⟩), .pointer (some ⟨r, 1, none⟩), .int .i64 (at_ : Nat), undef, .int .i64 (at_ : Nat), .int .i64 76] [(5, fun _ _ => True)])
          (fun w' => PkAt w' w.heap.size (Wi.Pk.zero 0) (.slice none 0 0) ∧ RdAt w' r (.slice (some ⟨g, o, none⟩) l.length c) at_ ∧ Below w.heap.size w w')
          (fun _ _ => True) 70 rfl (by kernel_rfl) (by kernel_rfl) ⟨hz6.below (Below.drew (Below.refl _ _)), hR5.below (Below.drew (Below.refl _ _)), hb6.trans (Below.drew (Below.refl _ _))⟩ (fun _ _ => trivial) (Og.allOps ⟨?_, ?_, ?_, ?_, ?_, ?_, ?_, ?_, trivial⟩) ?_
        · exact Og.ok_val _ rfl rfl fun φ w7 hA => build_zero rfl w7
        · refine Og.ok_val _ rfl rfl fun φ w7 hA => ?_
          have e6 : φ 6 = .pointer (some ⟨r, 0, none⟩) := hA.old 6 (by kernel_rfl)
          simp only [execOp, Og.ev, e6]
          go_simp
        · refine Og.ok_val _ rfl rfl fun φ w7 hA => ?_
          have e6 : φ 65 = .pointer (some ⟨r, 0, none⟩) := hA.of 1 (d := 65) (by simp) rfl rfl
          simp only [execOp, Og.ev, e6]
          go_simp
        · refine Og.ok_val _ rfl rfl fun φ w7 hA => ?_
          have e6 : φ 66 = .pointer (some ⟨r, 0, none⟩) := hA.of 2 (d := 66) (by simp) rfl rfl
          simp only [execOp, Og.ev, e6]
          go_simp
        · refine Og.ok_val _ rfl rfl fun φ w7 hA => ?_
          have e6 : φ 67 = .pointer (some ⟨r, 1, none⟩) := hA.of 3 (d := 67) (by simp) rfl rfl
          have h71 := hA.keep.2.1.c1
          simp only [execOp, Og.ev, e6]
          go_simp
        · refine Og.ok_wskip _ rfl fun φ w7 hA => ?_
          have e2 : φ 2 = .pointer (some ⟨w.heap.size, 0, none⟩) := hA.old 2 (by kernel_rfl)
          have e46 : φ 64 = .agg (pkL (Wi.Pk.zero 0) (.slice none 0 0)).toArray := hA.of 0 (d := 64) (by simp) rfl rfl
          obtain ⟨hz7, hR7, hb7⟩ := hA.keep
          refine ⟨w7.setCells w.heap.size 0 (pkL (Wi.Pk.zero 0) (.slice none 0 0)), exec_store (o := 0) (vs := pkL (Wi.Pk.zero 0) (.slice none 0 0)) (cs := pkL (Wi.Pk.zero 0) (.slice none 0 0)) rfl e2 (by show (φ 64).cells = _; rw [e46]; rfl) hz7 (Nat.le_of_eq (by simp)) (by rw [pkL_length (Wi.Pk.zero_ok 0)]; exact pk_i) (pkL_one (Wi.Pk.zero 0) _ rfl), ⟨PkAt.store hz7 0 _ _ _ set_zero, blk_grown hR7 (setCells_grown w7 w.heap.size 0 _) (fun e => by injection e; omega), hb7.grown (setCells_grown w7 w.heap.size 0 _) hb7.size (fun k hk => by injection hk with hk; omega)⟩, trivial, fun _ _ h => h, fun x hx _ u _ => by simp only [List.mem_cons, List.not_mem_nil, or_false] at hx; subst hx; trivial⟩
        · refine Og.ok_val _ rfl rfl fun φ w7 hA => ?_
          have e6 : φ 68 = .int .i64 (at_ : Nat) := hA.of 4 (d := 68) (by simp) rfl rfl
          simp only [execOp, Og.ev, e6]
          go_simp
        · refine Og.ok_val _ rfl rfl fun φ w7 hA => ?_
          simp only [execOp, Og.ev]
          go_simp
        · rename_i hnext
          intro φ a w7 hF hR h0 hV hN
          have e2 : φ 2 = .pointer (some ⟨w.heap.size, 0, none⟩) := h0 2 (by kernel_rfl)
          have e3 : φ 3 = .int .i64 (at_ : Nat) := hV 6 _ 3 rfl rfl rfl
          have e4 : φ 4 = .int .i64 76 := hV 7 _ 4 rfl rfl rfl
          refine hnext _ _ (wp_ret ?_)
          simp only [Exit.inBlock, Exit.then]
          refine bodyPost_ret (dec_res _ ((hF.2.2 2).trans e2) hR.1 (Wi.Pk.zero_ok 0)) hF.1 ?_
          rw [hF.2.2 3, hF.2.2 4, e3, e4]
          (try rw [← Hlb.out])
          show DecPost w l _ _
          unfold DecPost
          rw [Hu.out]
          exact ⟨.slice none 0 0, rfl, OB.nil_ _ _, hR.2.2⟩
/-- DecodePacket, any bytes. -/
theorem decP_calls {w : World} {v : Value} {l : List UInt8} (hr : RB w v l) (hS : Szs w) : Calls Tryd.prog 26 #[v] w (DecPost w l) := by
  cases l with
  | nil =>
    obtain ⟨p, c, rfl⟩ := hr.form
    exact decP_nil
  | cons b l' =>
    obtain ⟨p, c, rfl⟩ := hr.form
    obtain ⟨g, o, rfl, -⟩ := hr.addr (by simp)
    cases hk : knownB b.toNat with
    | true => exact decP_known hr hS hk
    | false => exact decP_unk hr hk
end Go.Proofs.YtbgfoobcpacfeaaDoor

/- What the laws of chapter 7 use: lists with marks behind them, comparing, turning. -/
namespace Go.Proofs.YtbgfoobcpacfeaaDoor
open Go.RowKit
set_option linter.unusedVariables false
set_option linter.unusedSimpArgs false

namespace Wi
def marks : List UInt8 := (List.range 40).map fun i => UInt8.ofNat (165 ^^^ i)
theorem marks_length : marks.length = 40 := rfl
theorem marks_at {i : Nat} (h : i < 40) : marks[i]? = some (UInt8.ofNat (165 ^^^ i)) := by simp [marks, h]
end Wi

theorem num_calls (w : World) (e : Int) : Pur Tryd.prog 17 #[.int .i64 e] w (.int .i64 e) := by
  unfold Pur
  go_enter Tryd.func17, Tryd.ntmps17
  go_wp2
  go_ret
  exact ⟨rfl, Below.refl _ _⟩

theorem num_same (w : World) (e : Int) : Sam Tryd.prog 17 #[.int .i64 e] w (.int .i64 e) := by
  unfold Sam
  go_enter Tryd.func17, Tryd.ntmps17
  go_wp2
  go_ret
  exact ⟨rfl, rfl⟩

theorem frameKind_calls (w : World) (k : Int) : Pur Tryd.prog 49 #[.int .i64 k] w (.bool (Wi.kindOk k)) := by
  unfold Pur Wi.kindOk
  by_cases h1 : 1 ≤ k <;> by_cases h2 : k ≤ 4
  all_goals
    go_enter Tryd.func49, Tryd.ntmps49
    go_wp2
    all_goals go_ret
    all_goals exact ⟨ret_bool (by simp [h1, h2]), Below.refl _ _⟩

theorem carries_calls (w : World) (k : Int) (n : Nat) : Pur Tryd.prog 50 #[.int .i64 k, .int .i64 n] w (.bool (Wi.carries k n)) := by
  unfold Pur Wi.carries
  cases h2 : (k == 2) <;> by_cases h1 : 0 < n <;> by_cases h3 : n ≤ 2048
  all_goals
    have h1' : decide ((0 : Int) < (n : Int)) = decide (0 < n) := by simp
    have h3' : decide ((n : Int) ≤ 2048) = decide (n ≤ 2048) := by rw [decide_eq_decide]; omega
    go_enter Tryd.func50, Tryd.ntmps50
    go_wp2
    all_goals go_ret
    all_goals exact ⟨ret_bool (by simp [h1, h2, h3]), Below.refl _ _⟩


theorem trace_here : True := trivial
end Go.Proofs.YtbgfoobcpacfeaaDoor
