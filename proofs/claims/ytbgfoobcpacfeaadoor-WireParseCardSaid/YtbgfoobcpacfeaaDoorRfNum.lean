/- The document's own reader: a number. -/
import Derived.Test.YtbgfoobcpacfeaaDoorPk8
import Derived.Test.YtbgfoobcpacfeaaDoorRfSp3
namespace Go.Proofs.YtbgfoobcpacfeaaDoor
open Go.RowKit
set_option maxRecDepth 100000
set_option linter.unusedVariables false
set_option linter.unusedSimpArgs false

namespace Wi
def meetsI (s : List (Int × Int)) (lo hi : Int) : Bool := s.any fun s => decide (lo ≤ s.2) && decide (s.1 ≤ hi)
def rNum (s : List (Int × Int)) : Nat → Nat → List UInt8 → Res Nat
  | 0, v, l => .ok v l
  | _ + 1, _, [] => .bad []
  | k + 1, v, c :: l => if meetsI s (((v * 256 + c.toNat) * 256 ^ k : Nat) : Int) (((v * 256 + c.toNat + 1) * 256 ^ k - 1 : Nat) : Int) then rNum s k (v * 256 + c.toNat) l else .bad (c :: l)
end Wi
/-- The document's reader lies there: its bytes and its place. -/
def RRd (w : World) (r : Nat) (bs : Value) (n : Nat) : Prop := w.heap[r]? = some (.cells [bs, .int .i64 n].toArray 95 (0, 0))
theorem RRd.c0 {w : World} {r n : Nat} {bs : Value} (h : RRd w r bs n) : w.cell? ⟨r, 0, none⟩ = some bs := has_cell h 0
theorem RRd.c1 {w : World} {r n : Nat} {bs : Value} (h : RRd w r bs n) : w.cell? ⟨r, 1, none⟩ = some (.int .i64 n) := has_cell h 1
theorem RRd.lt {w : World} {r n : Nat} {bs : Value} (h : RRd w r bs n) : r < w.heap.size := heap_lt h
theorem RRd.below {w w' : World} {r n : Nat} {bs : Value} (h : RRd w r bs n) (hb : Below w.heap.size w w') : RRd w' r bs n := blk_below h hb
theorem RRd.set {w : World} {r n : Nat} {bs : Value} (h : RRd w r bs n) (m : Nat) : RRd (w.setCells r 1 [.int .i64 m]) r bs m := setCells_heap [.int .i64 m] 1 w _ h
theorem RSp.grown {w w' : World} {v : Value} {l : List (Int × Int)} {r : Option Nat} (h : RSp w v l) (hg : w.grownBy w' r) (hne : ∀ g, v.ownBlock = some g → r ≠ some g) : RSp w' v l := by
  obtain ⟨g, c, rfl, ⟨cs, fz, hk⟩, h4, hc, hr⟩ := h
  have hb : w'.heap[g]? = w.heap[g]? := hg.block g (heap_lt hk) (fun e => hne g rfl e.symm)
  refine ⟨g, c, rfl, ⟨cs, fz, hb.trans hk⟩, h4, hc, fun i s hs => ?_⟩
  obtain ⟨h1, h2⟩ := hr i s hs
  exact ⟨(World.cell?_of_block hb).trans h1, (World.cell?_of_block hb).trans h2⟩

/-- What the document's 'number' answers. -/
def RNumPost (w : World) (r : Nat) (bs : Value) (len : Nat) (res : Wi.Res Nat) (e : Ending) (w' : World) : Prop :=
  match res with
  | .ok v rest => e = .returned (.tuple #[.int .i64 v, .bool true]) ∧ RRd w' r bs (len - rest.length) ∧ w.grownBy w' (some r)
  | .bad rest => e = .returned (.tuple #[.int .i64 0, .bool false]) ∧ RRd w' r bs (len - rest.length) ∧ w.grownBy w' (some r)
/-- Its loop, behind i of n bytes. -/
def RNumI (w : World) (r : Nat) (bs sv : Value) (l : List UInt8) (s : List (Int × Int)) (n at_ : Nat) (i : Nat) (a : Act) (w' : World) : Prop :=
  ∃ v, (∃ U : Nat → Value, a = ⟨#[.pointer (some ⟨r, 0, none⟩), .int .i64 n, sv, U 3, U 4, U 5, .int .i64 0, .bool false, .int .i64 (v : Nat), .int .i64 (i : Nat), U 10, U 11, U 12, U 13, U 14, U 15, U 16, U 17, U 18, U 19, U 20, U 21, U 22, U 23, U 24, U 25, U 26, U 27, U 28, U 29, U 30, U 31, U 32, U 33, U 34, U 35, U 36, U 37, U 38, U 39, U 40, U 41, U 42, U 43, U 44, U 45, U 46, U 47, U 48, U 49, U 50, U 51, U 52, U 53, U 54, U 55, U 56, U 57, U 58, U 59, U 60, U 61, U 62, U 63, U 64, U 65, U 66, U 67, U 68, U 69, U 70, U 71, U 72, U 73, U 74, U 75, U 76, U 77, U 78, U 79, U 80, U 81, U 82, U 83, U 84, U 85, U 86, U 87, U 88, U 89, U 90, U 91], []⟩) ∧
    v < 256 ^ i ∧ at_ + i ≤ l.length ∧ Wi.rNum s n 0 (l.drop at_) = Wi.rNum s (n - i) v (l.drop (at_ + i)) ∧ RRd w' r bs (at_ + i) ∧ w.grownBy w' (some r)
/-- Its inner loop, behind k spans. -/
def RNumJ (r n i y x : Nat) (lo hi : Int) (s : List (Int × Int)) (sg sc : Nat) (w0 : World) (k : Nat) (a : Act) (w' : World) : Prop :=
  (∃ U : Nat → Value, a = ⟨#[.pointer (some ⟨r, 0, none⟩), .int .i64 n, .slice (some ⟨sg, 0, none⟩) s.length sc, U 3, U 4, U 5, .int .i64 0, .bool false, .int .i64 (x : Nat), .int .i64 (i : Nat), .int .i64 (y : Nat), U 11, .int .i64 lo, .int .i64 hi, .bool ((s.take k).any fun s => decide (lo ≤ s.2) && decide (s.1 ≤ hi)), .int .i64 (k : Nat), U 16, U 17, U 18, U 19, U 20, U 21, U 22, U 23, U 24, U 25, U 26, U 27, U 28, U 29, U 30, U 31, U 32, U 33, U 34, U 35, U 36, U 37, U 38, U 39, U 40, U 41, U 42, U 43, U 44, U 45, U 46, U 47, U 48, U 49, U 50, U 51, U 52, U 53, U 54, U 55, U 56, U 57, U 58, U 59, U 60, U 61, U 62, U 63, U 64, U 65, U 66, U 67, U 68, U 69, U 70, U 71, U 72, U 73, U 74, U 75, U 76, U 77, U 78, U 79, U 80, U 81, U 82, U 83, U 84, U 85, U 86, U 87, U 88, U 89, U 90, U 91], []⟩) ∧ w' = w0

set_option maxHeartbeats 8000000 in
theorem rnumber_calls {w : World} {r g o c at_ n : Nat} {l : List UInt8} {sv : Value} {s : List (Int × Int)} (hR : RRd w r (.slice (some ⟨g, o, none⟩) l.length c) at_) (hr : RB w (.slice (some ⟨g, o, none⟩) l.length c) l) (hgr : g ≠ r) (hs : RSp w sv s) (hsr : sv.ownBlock ≠ some r) (hat : at_ ≤ l.length) (hl : l.length ≤ 140737488355328) (hn : n ≤ 4) :
    Calls Tryd.prog 90 #[.pointer (some ⟨r, 0, none⟩), .int .i64 n, sv] w (RNumPost w r (.slice (some ⟨g, o, none⟩) l.length c) l.length (Wi.rNum s n 0 (l.drop at_))) := by
  go_enter Tryd.func90, Tryd.ntmps90
  go_wp2_with fail
  refine wp_loop_count (RNumI w r (.slice (some ⟨g, o, none⟩) l.length c) sv l s n at_) n ⟨0, exU (fun U => ⟨#[.pointer (some ⟨r, 0, none⟩), .int .i64 n, sv, U 3, U 4, U 5, .int .i64 0, .bool false, .int .i64 (0 : Nat), .int .i64 (0 : Nat), U 10, U 11, U 12, U 13, U 14, U 15, U 16, U 17, U 18, U 19, U 20, U 21, U 22, U 23, U 24, U 25, U 26, U 27, U 28, U 29, U 30, U 31, U 32, U 33, U 34, U 35, U 36, U 37, U 38, U 39, U 40, U 41, U 42, U 43, U 44, U 45, U 46, U 47, U 48, U 49, U 50, U 51, U 52, U 53, U 54, U 55, U 56, U 57, U 58, U 59, U 60, U 61, U 62, U 63, U 64, U 65, U 66, U 67, U 68, U 69, U 70, U 71, U 72, U 73, U 74, U 75, U 76, U 77, U 78, U 79, U 80, U 81, U 82, U 83, U 84, U 85, U 86, U 87, U 88, U 89, U 90, U 91], []⟩) rfl, by simp, hat, rfl, hR, World.grownBy.refl w _⟩ ?_ ?_
  · rintro i a w' hi ⟨v, ⟨U, rfl⟩, hv, hat', heq, hR', hg'⟩
    obtain ⟨j, rfl⟩ : ∃ j, n = i + 1 + j := ⟨n - (i + 1), by omega⟩
    have h0 := hR'.c0
    have h1 := hR'.c1
    have hrlt := hR'.lt
    have hi0 : (0 : Int) ≤ (i : Int) := Int.natCast_nonneg i
    have hij : (i : Int) < ((i + 1 + j : Nat) : Int) := by omega
    have wi1 : IntKind.i64.wrap ((i : Int) + 1) = (i : Int) + 1 := IntWalk.i64_in _ ⟨by omega, by omega⟩
    rw [show i + 1 + j - i = j + 1 by omega] at heq
    obtain ⟨n, hnn⟩ : ∃ n, n = i + 1 + j := ⟨_, rfl⟩
    rw [← hnn] at hij heq ⊢
    have Hq := Lib.hid heq
    have Hv := Lib.hid hv
    have Hn := Lib.hid hnn
    have hi3 : i ≤ 3 := by omega
    have Hn4 := Lib.hid (show i + 1 + j ≤ 4 from hn)
    clear heq hv hn hi
    by_cases he : at_ + i = l.length
    · have hnil : l.drop (at_ + i) = [] := List.drop_of_length_le (by omega)
      rw [hnil] at Hq
      have Hr := Lib.hid hR'
      rw [he] at h1 Hr
      have hge : (l.length : Int) ≤ (l.length : Int) := Int.le_refl _
      clear hnil hR' hnn
      go_wp2_with fail
      refine wp_region_here (by kernel_rfl) (by kernel_rfl) ?_
      (repeat (first | (apply wpR_pass rfl; (try simp only [Act.put, List.setIfInBounds_toArray, List.set_cons_succ, List.set_cons_zero])) | (apply wpR_val rfl; (focus (intro w1 hR; obtain ⟨hc, hf⟩ := bcellB hR; (try go_simp); (try exact Eq.refl _); done)); (try simp only [Act.put, List.setIfInBounds_toArray, List.set_cons_succ, List.set_cons_zero])) | (apply wpR_call rfl; (focus (intro w1 hR; obtain ⟨hc, hf⟩ := bcellB hR; (try go_simp); (try exact And.intro rfl rfl); done)); (focus (intro w1 hR; first | exact ().at_ (by first | omega | (simp; done) | (simp; omega)) hR)); (try simp only [Act.put, List.setIfInBounds_toArray, List.set_cons_succ, List.set_cons_zero])) | (apply wpR_val_want rfl; (focus (intro w1 hR; obtain ⟨hc, hf⟩ := bcellB hR; (try go_simp); (try exact Eq.refl _); done)); (try simp only [Act.put, List.setIfInBounds_toArray, List.set_cons_succ, List.set_cons_zero])) | (apply wpR_call_want rfl; (focus (intro w1 hR; obtain ⟨hc, hf⟩ := bcellB hR; (try go_simp); (try exact And.intro rfl rfl); done)); (focus (intro w1 hR; first | exact ().at_ (by first | omega | (simp; done) | (simp; omega)) hR)); (try simp only [Act.put, List.setIfInBounds_toArray, List.set_cons_succ, List.set_cons_zero]))))
      refine wpR_nil ?_
      intro w2 hb2
      go_wp2_with fail
      go_ret2
      rw [Hq.out]
      exact ⟨rfl, Hr.out.below hb2, World.grownBy.trans hg' (below_grown hb2)⟩
    · obtain ⟨b, hb⟩ : ∃ b, l[at_ + i]? = some b := ⟨l[at_ + i], List.getElem?_eq_getElem (by omega)⟩
      have hcell0 := cell_of_rb hr (at_ + i) b hb
      have hg0 : g < w.heap.size := cell_lt hcell0
      have hgw : g < w'.heap.size := Nat.lt_of_lt_of_le hg0 hg'.size
      have hcell : w'.cell? ⟨g, o + (at_ + i), none⟩ = some (bv b) := (World.cell?_of_block (hg'.block g hg0 (fun e => hgr (by injection e)))).trans hcell0
      have hltI : ((at_ + i : Nat) : Int) < (l.length : Int) := by exact_mod_cast (Nat.lt_of_le_of_ne hat' he)
      have hnge : ¬ (l.length : Int) ≤ ((at_ + i : Nat) : Int) := by omega
      have h0I : (0 : Int) ≤ ((at_ + i : Nat) : Int) := Int.natCast_nonneg _
      obtain ⟨pl, hpl⟩ : ∃ pl, pl = at_ + i := ⟨_, rfl⟩
      rw [← hpl] at hcell h1 hltI hnge h0I hR' he hat' Hq hb
      have Hpl := Lib.hid hpl
      have Hple := Lib.hid hat'
      have Hdrop := Lib.hid (show l.drop pl = b :: l.drop (pl + 1) from by
        rw [List.drop_eq_getElem_cons (by omega)]
        rw [List.getElem?_eq_getElem (by omega)] at hb
        injection hb with hb'
        rw [hb'])
      have hv4 : v < 16777216 := Nat.lt_of_lt_of_le Hv.out (by
        have := Nat.pow_le_pow_right (n := 256) (by decide) hi3
        simpa using this)
      have hb8 := b.toNat_lt
      obtain ⟨y, hy⟩ : ∃ y, y = v * 256 + b.toNat := ⟨_, rfl⟩
      have w256 : IntKind.i64.wrap (256 * (v : Int)) = 256 * (v : Int) := IntWalk.i64_in _ ⟨by omega, by omega⟩
      have wcv : IntKind.i64.wrap (b.toNat : Int) = (b.toNat : Int) := IntWalk.i64_in _ ⟨by omega, by omega⟩
      have wadd : IntKind.i64.wrap (256 * (v : Int) + (b.toNat : Int)) = (y : Int) := by rw [IntWalk.i64_in _ ⟨by omega, by omega⟩, hy]; omega
      have Hy := Lib.hid hy
      have Hv4 := Lib.hid hv4
      have hsd := hs.grown hg' (fun g' e1 e2 => hsr (e1.trans e2.symm))
      have Hsd := Lib.hid hsd
      clear hpl hb he hat' hcell0 hg0 hy hv4 hb8 hnn hsd
      go_wp2_with fail
      refine wp_region_here (by kernel_rfl) (by kernel_rfl) ?_
      (repeat (first | (apply wpR_pass rfl; (try simp only [Act.put, List.setIfInBounds_toArray, List.set_cons_succ, List.set_cons_zero])) | (apply wpR_val rfl; (focus (intro w1 hR; obtain ⟨hc, hf⟩ := bcellB hR; (try go_simp); (try exact Eq.refl _); done)); (try simp only [Act.put, List.setIfInBounds_toArray, List.set_cons_succ, List.set_cons_zero])) | (apply wpR_call rfl; (focus (intro w1 hR; obtain ⟨hc, hf⟩ := bcellB hR; (try go_simp); (try exact And.intro rfl rfl); done)); (focus (intro w1 hR; first | exact ().at_ (by first | omega | (simp; done) | (simp; omega)) hR)); (try simp only [Act.put, List.setIfInBounds_toArray, List.set_cons_succ, List.set_cons_zero])) | (apply wpR_val_want rfl; (focus (intro w1 hR; obtain ⟨hc, hf⟩ := bcellB hR; (try go_simp); (try exact Eq.refl _); done)); (try simp only [Act.put, List.setIfInBounds_toArray, List.set_cons_succ, List.set_cons_zero])) | (apply wpR_call_want rfl; (focus (intro w1 hR; obtain ⟨hc, hf⟩ := bcellB hR; (try go_simp); (try exact And.intro rfl rfl); done)); (focus (intro w1 hR; first | exact ().at_ (by first | omega | (simp; done) | (simp; omega)) hR)); (try simp only [Act.put, List.setIfInBounds_toArray, List.set_cons_succ, List.set_cons_zero]))))
      refine wpR_nil ?_
      intro w2 hb2
      have hR2 := hR'.below hb2
      have h02 := hR2.c0
      have h12 := hR2.c1
      have hrlt2 := hR2.lt
      have hcell2 := ((bcellB hb2).1 g (o + pl) hgw).trans hcell
      have hgw2 : g < w2.heap.size := Nat.lt_of_lt_of_le hgw hb2.size
      clear h0 h1 hrlt hcell
      go_wp2_with fail
      refine wp_region_here (by kernel_rfl) (by kernel_rfl) ?_
      (repeat (first | (apply wpR_pass rfl; (try simp only [Act.put, List.setIfInBounds_toArray, List.set_cons_succ, List.set_cons_zero])) | (apply wpR_val rfl; (focus (intro w1 hR; obtain ⟨hc, hf⟩ := bcellB hR; (try go_simp); (try exact Eq.refl _); done)); (try simp only [Act.put, List.setIfInBounds_toArray, List.set_cons_succ, List.set_cons_zero])) | (apply wpR_call rfl; (focus (intro w1 hR; obtain ⟨hc, hf⟩ := bcellB hR; (try go_simp); (try exact And.intro rfl rfl); done)); (focus (intro w1 hR; first | exact ().at_ (by first | omega | (simp; done) | (simp; omega)) hR)); (try simp only [Act.put, List.setIfInBounds_toArray, List.set_cons_succ, List.set_cons_zero])) | (apply wpR_val_want rfl; (focus (intro w1 hR; obtain ⟨hc, hf⟩ := bcellB hR; (try go_simp); (try exact Eq.refl _); done)); (try simp only [Act.put, List.setIfInBounds_toArray, List.set_cons_succ, List.set_cons_zero])) | (apply wpR_call_want rfl; (focus (intro w1 hR; obtain ⟨hc, hf⟩ := bcellB hR; (try go_simp); (try exact And.intro rfl rfl); done)); (focus (intro w1 hR; first | exact ().at_ (by first | omega | (simp; done) | (simp; omega)) hR)); (try simp only [Act.put, List.setIfInBounds_toArray, List.set_cons_succ, List.set_cons_zero]))))
      refine wpR_nil ?_
      intro w3 hb3
      have hR3 := hR2.below hb3
      clear h02 h12 hcell2 w256 wcv wadd
      have hnj := Hn.out
      have hn4 : n ≤ 4 := by
        rw [hnj]
        exact Hn4.out
      have hpos : 0 < 256 ^ j := Nat.pow_pos (by decide)
      obtain ⟨m, hm⟩ : ∃ m, m = 256 ^ j := ⟨_, rfl⟩
      obtain ⟨lo, hlo⟩ : ∃ lo, lo = y * 256 ^ j := ⟨_, rfl⟩
      obtain ⟨hi', hhi⟩ : ∃ hi', hi' = (y + 1) * 256 ^ j - 1 := ⟨_, rfl⟩
      have hhi1 : hi' + 1 = lo + m := by
        rw [hlo, hm]
        have h1 : (y + 1) * 256 ^ j = y * 256 ^ j + 256 ^ j := by rw [Nat.add_mul, Nat.one_mul]
        omega
      have hyi : y < 256 ^ (i + 1) := by
        have h8 := b.toNat_lt
        have h9 := Hv.out
        rw [Hy.out, Nat.pow_succ]
        omega
      have hy4 : (y + 1) * 256 ^ j ≤ 4294967296 := by
        have h1 := Nat.mul_le_mul (show y + 1 ≤ 256 ^ (i + 1) from hyi) (Nat.le_refl (256 ^ j))
        rw [← Nat.pow_add] at h1
        have h3 : (256 : Nat) ^ (i + 1 + j) ≤ 256 ^ 4 := Nat.pow_le_pow_right (n := 256) (by decide) Hn4.out
        exact Nat.le_trans h1 h3
      have hlm : lo + m ≤ 4294967296 := by
        rw [hlo, hm]
        have h1 : (y + 1) * 256 ^ j = y * 256 ^ j + 256 ^ j := by rw [Nat.add_mul, Nat.one_mul]
        omega
      have h2p : (2 : Int) ^ (8 * j) = (m : Int) := by
        rw [hm, Int.pow_mul]
        simp
      have hyp : (y : Int) * 2 ^ (8 * j) = (lo : Int) := by rw [h2p, hlo, hm]; push_cast; rfl
      have wn1 : IntKind.i64.wrap ((n : Int) - 1) = (n : Int) - 1 := IntWalk.i64_in _ ⟨by omega, by omega⟩
      have wnj : IntKind.i64.wrap ((n : Int) - 1 - (i : Int)) = (j : Int) := by rw [IntWalk.i64_in _ ⟨by omega, by omega⟩]; omega
      have w8j : IntKind.i64.wrap (8 * (j : Int)) = ((8 * j : Nat) : Int) := by rw [IntWalk.i64_in _ ⟨by omega, by omega⟩]; push_cast; rfl
      obtain ⟨e8, he8⟩ : ∃ e8, e8 = 8 * j := ⟨_, rfl⟩
      rw [← he8] at h2p hyp w8j
      have hmin : min e8 64 = e8 := Nat.min_eq_left (by omega)
      have wu8 : IntKind.u64.wrap (e8 : Int) = (e8 : Int) := by simp only [IntKind.wrap, IntKind.bits, IntKind.signed]; simp; omega
      have he80 : (0 : Int) ≤ (e8 : Int) := Int.natCast_nonneg e8
      have wsl : IntKind.i64.wrap ((y : Int) * 2 ^ e8) = (lo : Int) := by rw [hyp, IntWalk.i64_in _ ⟨by omega, by omega⟩]
      have ws1 : IntKind.i64.wrap (1 * 2 ^ e8) = (m : Int) := by rw [h2p, Int.one_mul, IntWalk.i64_in _ ⟨by omega, by omega⟩]
      have ws1' : IntKind.i64.wrap (2 ^ e8) = (m : Int) := by rw [h2p, IntWalk.i64_in _ ⟨by omega, by omega⟩]
      have wlm : IntKind.i64.wrap ((lo : Int) + (m : Int)) = (lo : Int) + (m : Int) := IntWalk.i64_in _ ⟨by omega, by omega⟩
      have wlm1 : IntKind.i64.wrap ((lo : Int) + (m : Int) - 1) = (hi' : Int) := by rw [IntWalk.i64_in _ ⟨by omega, by omega⟩]; omega
      have Hlo := Lib.hid hlo
      have Hhi := Lib.hid hhi
      have Hyi := Lib.hid hyi
      have hs3 := Hsd.out.below (hb2.trans (hb3.mono hb2.size))
      have hg3 := World.grownBy.trans hg' (below_grown (r := some r) (hb2.trans (hb3.mono hb2.size)))
      obtain ⟨sg, sc, hsv, ⟨scs, sfz, hsk⟩, hs4, hsc, hsr'⟩ := hs3
      have hsg := heap_lt hsk
      have hrd : l.drop pl = b :: l.drop (pl + 1) := Hdrop.out
      rw [hrd] at Hq
      have Hrd := Hq.out
      rw [Wi.rNum, ← Hy.out, ← Hlo.out, ← Hhi.out] at Hrd
      have Hrd := Lib.hid Hrd
      subst hsv
      clear hm hlo hhi hhi1 hyi hy4 hlm h2p hyp he8 hnj hn4 hpos hsk hrd Hq hi3
      go_wp2_with fail
      refine wp_loop_count (RNumJ r n i y v (lo : Int) (hi' : Int) s sg sc w3) s.length ⟨exU (fun U => ⟨#[.pointer (some ⟨r, 0, none⟩), .int .i64 n, .slice (some ⟨sg, 0, none⟩) s.length sc, U 3, U 4, U 5, .int .i64 0, .bool false, .int .i64 (v : Nat), .int .i64 (i : Nat), .int .i64 (y : Nat), U 11, .int .i64 (lo : Nat), .int .i64 (hi' : Nat), .bool false, .int .i64 (0 : Nat), U 16, U 17, U 18, U 19, U 20, U 21, U 22, U 23, U 24, U 25, U 26, U 27, U 28, U 29, U 30, U 31, U 32, U 33, U 34, U 35, U 36, U 37, U 38, U 39, U 40, U 41, U 42, U 43, U 44, U 45, U 46, U 47, U 48, U 49, U 50, U 51, U 52, U 53, U 54, U 55, U 56, U 57, U 58, U 59, U 60, U 61, U 62, U 63, U 64, U 65, U 66, U 67, U 68, U 69, U 70, U 71, U 72, U 73, U 74, U 75, U 76, U 77, U 78, U 79, U 80, U 81, U 82, U 83, U 84, U 85, U 86, U 87, U 88, U 89, U 90, U 91], []⟩) rfl, rfl⟩ ?_ ?_
      · rintro k a w4 hk ⟨⟨U4, rfl⟩, rfl⟩
        obtain ⟨t, ht⟩ : ∃ t, s[k]? = some t := ⟨s[k], List.getElem?_eq_getElem hk⟩
        obtain ⟨c1, c2⟩ := hsr' k t ht
        have Hn := Lib.hid (any_take_next (fun t : Int × Int => decide ((lo : Int) ≤ t.2) && decide (t.1 ≤ (hi' : Int))) ht)
        have hkl : (k : Int) < (s.length : Int) := by exact_mod_cast hk
        have hk0 : (0 : Int) ≤ (k : Int) := Int.natCast_nonneg k
        have hk4 : (k : Int) < 4 := by omega
        have wk1 : IntKind.i64.wrap ((k : Int) + 1) = (k : Int) + 1 := IntWalk.i64_in _ ⟨by omega, by omega⟩
        generalize (s.take k).any (fun t => decide ((lo : Int) ≤ t.2) && decide (t.1 ≤ (hi' : Int))) = old at *
        clear hk ht hsr'
        by_cases t1 : (lo : Int) ≤ t.2
        · by_cases t2 : t.1 ≤ (hi' : Int)
          · have Hn2 : Hid (((s.take (k + 1)).any fun t => decide ((lo : Int) ≤ t.2) && decide (t.1 ≤ (hi' : Int))) = true) := by
              show _ = true
              rw [Hn.out]; simp [t1, t2]
            go_wp2_with fail
            unfold RNumJ
            rw [Hn2.out]
            exact ⟨exU (fun U => ⟨#[.pointer (some ⟨r, 0, none⟩), .int .i64 n, .slice (some ⟨sg, 0, none⟩) s.length sc, U 3, U 4, U 5, .int .i64 0, .bool false, .int .i64 (v : Nat), .int .i64 (i : Nat), .int .i64 (y : Nat), U 11, .int .i64 (lo : Nat), .int .i64 (hi' : Nat), .bool true, .int .i64 (k + 1 : Nat), U 16, U 17, U 18, U 19, U 20, U 21, U 22, U 23, U 24, U 25, U 26, U 27, U 28, U 29, U 30, U 31, U 32, U 33, U 34, U 35, U 36, U 37, U 38, U 39, U 40, U 41, U 42, U 43, U 44, U 45, U 46, U 47, U 48, U 49, U 50, U 51, U 52, U 53, U 54, U 55, U 56, U 57, U 58, U 59, U 60, U 61, U 62, U 63, U 64, U 65, U 66, U 67, U 68, U 69, U 70, U 71, U 72, U 73, U 74, U 75, U 76, U 77, U 78, U 79, U 80, U 81, U 82, U 83, U 84, U 85, U 86, U 87, U 88, U 89, U 90, U 91], []⟩) rfl, rfl⟩
          · have Hn2 : Hid (((s.take (k + 1)).any fun t => decide ((lo : Int) ≤ t.2) && decide (t.1 ≤ (hi' : Int))) = old) := by
              show _ = old
              rw [Hn.out]; simp [t2]
            go_wp2_with fail
            unfold RNumJ
            rw [Hn2.out]
            exact ⟨exU (fun U => ⟨#[.pointer (some ⟨r, 0, none⟩), .int .i64 n, .slice (some ⟨sg, 0, none⟩) s.length sc, U 3, U 4, U 5, .int .i64 0, .bool false, .int .i64 (v : Nat), .int .i64 (i : Nat), .int .i64 (y : Nat), U 11, .int .i64 (lo : Nat), .int .i64 (hi' : Nat), .bool old, .int .i64 (k + 1 : Nat), U 16, U 17, U 18, U 19, U 20, U 21, U 22, U 23, U 24, U 25, U 26, U 27, U 28, U 29, U 30, U 31, U 32, U 33, U 34, U 35, U 36, U 37, U 38, U 39, U 40, U 41, U 42, U 43, U 44, U 45, U 46, U 47, U 48, U 49, U 50, U 51, U 52, U 53, U 54, U 55, U 56, U 57, U 58, U 59, U 60, U 61, U 62, U 63, U 64, U 65, U 66, U 67, U 68, U 69, U 70, U 71, U 72, U 73, U 74, U 75, U 76, U 77, U 78, U 79, U 80, U 81, U 82, U 83, U 84, U 85, U 86, U 87, U 88, U 89, U 90, U 91], []⟩) rfl, rfl⟩
        · have Hn2 : Hid (((s.take (k + 1)).any fun t => decide ((lo : Int) ≤ t.2) && decide (t.1 ≤ (hi' : Int))) = old) := by
            show _ = old
            rw [Hn.out]; simp [t1]
          go_wp2_with fail
          unfold RNumJ
          rw [Hn2.out]
          exact ⟨exU (fun U => ⟨#[.pointer (some ⟨r, 0, none⟩), .int .i64 n, .slice (some ⟨sg, 0, none⟩) s.length sc, U 3, U 4, U 5, .int .i64 0, .bool false, .int .i64 (v : Nat), .int .i64 (i : Nat), .int .i64 (y : Nat), U 11, .int .i64 (lo : Nat), .int .i64 (hi' : Nat), .bool old, .int .i64 (k + 1 : Nat), U 16, U 17, U 18, U 19, U 20, U 21, U 22, U 23, U 24, U 25, U 26, U 27, U 28, U 29, U 30, U 31, U 32, U 33, U 34, U 35, U 36, U 37, U 38, U 39, U 40, U 41, U 42, U 43, U 44, U 45, U 46, U 47, U 48, U 49, U 50, U 51, U 52, U 53, U 54, U 55, U 56, U 57, U 58, U 59, U 60, U 61, U 62, U 63, U 64, U 65, U 66, U 67, U 68, U 69, U 70, U 71, U 72, U 73, U 74, U 75, U 76, U 77, U 78, U 79, U 80, U 81, U 82, U 83, U 84, U 85, U 86, U 87, U 88, U 89, U 90, U 91], []⟩) rfl, rfl⟩
      · rintro a w4 ⟨⟨U4, rfl⟩, rfl⟩
        rw [List.take_length]
        have Hms : Hid (Wi.meetsI s (lo : Int) (hi' : Int) = s.any fun t => decide ((lo : Int) ≤ t.2) && decide (t.1 ≤ (hi' : Int))) := rfl
        generalize (s.any fun t => decide ((lo : Int) ≤ t.2) && decide (t.1 ≤ (hi' : Int))) = met at *
        have h14 := hR3.c1
        have hrlt4 := hR3.lt
        cases met
        · go_wp2_with fail
          go_ret2
          have hrd := Hrd.out
          rw [Hms.out] at hrd
          rw [hrd]
          refine ⟨rfl, ?_, hg3⟩
          have : l.length - (b :: l.drop (pl + 1)).length = pl := by
            have := congrArg List.length Hdrop.out
            rw [← this, List.length_drop]
            have := Hple.out
            omega
          simp only [this]
          exact hR3
        · have hfz : w4.frozen? ⟨r, 1, none⟩ = false := by simp [World.frozen?, show w4.heap[r]? = _ from hR3]
          have hw5 : IntKind.i64.wrap ((pl : Int) + 1) = ((pl + 1 : Nat) : Int) := by rw [IntWalk.i64_in _ ⟨by omega, by omega⟩]; rfl
          go_wp2_with fail
          refine ⟨y, exU (fun U => ⟨#[.pointer (some ⟨r, 0, none⟩), .int .i64 n, .slice (some ⟨sg, 0, none⟩) s.length sc, U 3, U 4, U 5, .int .i64 0, .bool false, .int .i64 (y : Nat), .int .i64 (i + 1 : Nat), U 10, U 11, U 12, U 13, U 14, U 15, U 16, U 17, U 18, U 19, U 20, U 21, U 22, U 23, U 24, U 25, U 26, U 27, U 28, U 29, U 30, U 31, U 32, U 33, U 34, U 35, U 36, U 37, U 38, U 39, U 40, U 41, U 42, U 43, U 44, U 45, U 46, U 47, U 48, U 49, U 50, U 51, U 52, U 53, U 54, U 55, U 56, U 57, U 58, U 59, U 60, U 61, U 62, U 63, U 64, U 65, U 66, U 67, U 68, U 69, U 70, U 71, U 72, U 73, U 74, U 75, U 76, U 77, U 78, U 79, U 80, U 81, U 82, U 83, U 84, U 85, U 86, U 87, U 88, U 89, U 90, U 91], []⟩) rfl, Hyi.out, ?_, ?_, ?_, ?_⟩
          · have := Hpl.out; omega
          · have hrd := Hrd.out
            rw [Hms.out, if_pos rfl] at hrd
            rw [hrd, show n - (i + 1) = j by have := Hn.out; omega, show at_ + (i + 1) = pl + 1 by have := Hpl.out; omega]
          · rw [show at_ + (i + 1) = pl + 1 by have := Hpl.out; omega]
            exact hR3.set (pl + 1)
          · exact World.grownBy.trans hg3 (setCells_grown w4 r 1 [.int .i64 ((pl + 1 : Nat) : Int)])
  · rintro a w' ⟨v, ⟨U, rfl⟩, hv, hat', heq, hR', hg'⟩
    rw [Nat.sub_self] at heq
    have Hq := Lib.hid heq
    clear heq hv
    go_wp2_with fail
    go_ret2
    rw [Hq.out]
    refine ⟨rfl, ?_, hg'⟩
    rw [List.length_drop, show l.length - (l.length - (at_ + n)) = at_ + n by omega]
    exact hR'
end Go.Proofs.YtbgfoobcpacfeaaDoor
