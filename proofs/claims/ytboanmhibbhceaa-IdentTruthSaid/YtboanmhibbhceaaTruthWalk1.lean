/- IdentTruth: the walks of what only reads. (Printed by wip/mktruth.py.) -/
import Derived.Test.YtboanmhibbhceaaRegP
import Derived.Test.YtboanmhibbhceaaTruthLaw3
import Derived.Test.YtboanmhibbhceaaRefComp2
import Derived.IntWalk
namespace Go.Proofs.Ytboanmhibbhceaa
open Go.RowKit
set_option linter.unusedVariables false
set_option linter.unusedSimpArgs false

/-- A loop of n rounds under an invariant that counts them. -/
theorem wp_loop_count {P : Program} {c : Code} {Q : Exit → Act → World → Prop} {a : Act} {w : World} (I : Nat → Act → World → Prop) (n : Nat) (h0 : I 0 a w)
    (hstep : ∀ i a w, i < n → I i a w → c.wp P (Exit.then (I (i + 1)) Q) a w) (hend : ∀ a w, I n a w → c.wp P (Exit.then (fun _ _ => False) Q) a w) : (Code.loop c).wp P Q a w := by
  have key : ∀ k i a w, i + k = n → I i a w → Code.rounds P c Q (k + 1) a w := by
    intro k
    induction k with
    | zero =>
      intro i a w hi h
      have : i = n := by omega
      subst this
      exact hend a w h
    | succ k ih =>
      intro i a w hi h
      refine Code.wp_mono (fun e a' w' he => ?_) (hstep i a w (by omega) h)
      cases e <;> first | exact ih (i + 1) a' w' (by omega) he | exact he
  exact wp_loop_rounds (n + 1) (key n 0 a w (by omega) h0)

set_option maxHeartbeats 1000000 in
theorem disk_calls (b : Bool) (w : World) : Pur Try.prog 38 #[.bool b] w (.int .i64 (Truth.disk b)) := by
  unfold Pur
  cases b
  all_goals
    go_enter Try.func38, Try.ntmps38
    go_wp2
    all_goals go_ret
    all_goals exact ⟨rfl, Below.refl _ _⟩

/-- A slice of ints that lies in memory. -/
def Lies (w : World) (p : Option Addr) (xs : List Int) : Prop :=
  xs ≠ [] → ∃ g, p = some ⟨g, 0, none⟩ ∧ g < w.heap.size ∧ ∀ i x, xs[i]? = some x → w.cell? ⟨g, i, none⟩ = some (.int .i64 x)

theorem Lies.below {w w' : World} {p : Option Addr} {xs : List Int} (h : Lies w p xs) (hb : Below w.heap.size w w') : Lies w' p xs := fun hne => by
  obtain ⟨g, e, hg, hc⟩ := h hne
  have hz := hb.size
  exact ⟨g, e, by omega, fun i x hx => ((bcell hb).1 _ _ hg).trans (hc i x hx)⟩

theorem take_contains (ys : List Int) (j : Nat) (x y : Int) (h : ys[j]? = some y) : (ys.take (j + 1)).contains x = ((ys.take j).contains x || (x == y)) := by
  rw [List.take_add_one, h]
  simp [List.contains_eq_mem, Bool.beq_eq_decide_eq]

theorem take_all (xs ys : List Int) (i : Nat) (x : Int) (h : xs[i]? = some x) : Truth.within (xs.take (i + 1)) ys = (Truth.within (xs.take i) ys && ys.contains x) := by
  unfold Truth.within
  rw [List.take_add_one, h]
  simp

theorem within_not {xs ys : List Int} {i : Nat} {x : Int} (h : xs[i]? = some x) (hn : ys.contains x = false) : Truth.within xs ys = false :=
  Truth.within_false.2 ⟨x, List.mem_of_getElem? h, by simpa using hn⟩

set_option maxRecDepth 100000 in
set_option maxHeartbeats 16000000 in
theorem within_calls (p0 p1 : Option Addr) (c0 c1 : Nat) (xs ys : List Int) (w : World) (h0 : Lies w p0 xs) (h1 : Lies w p1 ys) (l0 : xs.length ≤ maxLen) (l1 : ys.length ≤ maxLen) :
    Pur Try.prog 71 #[.slice p0 xs.length c0, .slice p1 ys.length c1] w (.bool (Truth.within xs ys)) := by
  unfold Pur
  go_enter Try.func71, Try.ntmps71
  go_wp2_with fail
  refine wp_loop_count (fun i a w' => ∃ u2 u3 u6 u7 u8 u9 u10 u11 u12 u13 u14 u15 u16 u17 u18 u19 u20 u21 u22 u23 u24 u25 u26 u27 u28 u29 u30, a = ⟨#[.slice p0 xs.length c0, .slice p1 ys.length c1, u2, u3, .bool false, .int .i64 i, u6, u7, u8, u9, u10, u11, u12, u13, u14, u15, u16, u17, u18, u19, u20, u21, u22, u23, u24, u25, u26, u27, u28, u29, u30], []⟩ ∧ Below w.heap.size w w' ∧ Truth.within (xs.take i) ys = true) xs.length ⟨_, _, _, _, _, _, _, _, _, _, _, _, _, _, _, _, _, _, _, _, _, _, _, _, _, _, _, rfl, Below.refl _ _, rfl⟩ ?_ ?_
  · rintro i a w' hi ⟨u2, u3, u6, u7, u8, u9, u10, u11, u12, u13, u14, u15, u16, u17, u18, u19, u20, u21, u22, u23, u24, u25, u26, u27, u28, u29, u30, rfl, hb, hall⟩
    obtain ⟨x, hx⟩ : ∃ x, xs[i]? = some x := ⟨xs[i], List.getElem?_eq_getElem hi⟩
    have hi' : (i : Int) < (xs.length : Int) := by exact_mod_cast hi
    have hi0 : (0 : Int) ≤ (i : Int) := Int.natCast_nonneg i
    go_wp2_with fail
    refine wp_loop_count (fun j a w' => ∃ u2 u3 u8 u9 u10 u11 u12 u13 u14 u15 u16 u17 u18 u19 u20 u21 u22 u23 u24 u25 u26 u27 u28 u29 u30, a = ⟨#[.slice p0 xs.length c0, .slice p1 ys.length c1, u2, u3, .bool false, .int .i64 i, (.bool ((ys.take j).contains x)), (.int .i64 j), u8, u9, u10, u11, u12, u13, u14, u15, u16, u17, u18, u19, u20, u21, u22, u23, u24, u25, u26, u27, u28, u29, u30], []⟩ ∧ Below w.heap.size w w') ys.length ⟨_, _, _, _, _, _, _, _, _, _, _, _, _, _, _, _, _, _, _, _, _, _, _, _, _, rfl, hb⟩ ?_ ?_
    · rintro j a w' hj ⟨u2, u3, u8, u9, u10, u11, u12, u13, u14, u15, u16, u17, u18, u19, u20, u21, u22, u23, u24, u25, u26, u27, u28, u29, u30, rfl, hb⟩
      obtain ⟨y, hy⟩ : ∃ y, ys[j]? = some y := ⟨ys[j], List.getElem?_eq_getElem hj⟩
      have hj' : (j : Int) < (ys.length : Int) := by exact_mod_cast hj
      have hj0 : (0 : Int) ≤ (j : Int) := Int.natCast_nonneg j
      obtain ⟨g, rfl, hg0, hg⟩ := (h0.below hb) (fun e => by rw [e] at hi; cases hi)
      obtain ⟨h, rfl, hh0, hh⟩ := (h1.below hb) (fun e => by rw [e] at hj; cases hj)
      have hgi := hg i x hx
      have hhj := hh j y hy
      go_wp2_with fail
      refine wp_region_here (by kernel_rfl) (by kernel_rfl) ?_
      have Hx := Lib.hid hx
      have Hy := Lib.hid hy
      clear hx hy hg hh
      have hwr : IntKind.i64.wrap ((j : Int) + 1) = ((j + 1 : Nat) : Int) := by
        have hm : maxLen = 9223372036854775807 := rfl
        rw [IntWalk.i64_in _ ⟨by omega, by omega⟩]; rfl
      (repeat (first | (apply wpR_pass rfl; (try simp only [Act.put, List.setIfInBounds_toArray, List.set_cons_succ, List.set_cons_zero])) | (apply wpR_val rfl; (focus (intro w1 hR; obtain ⟨hc, hf⟩ := bcellB hR; (try go_simp); (try exact Eq.refl _); done)); (try simp only [Act.put, List.setIfInBounds_toArray, List.set_cons_succ, List.set_cons_zero])) | (apply wpR_call rfl; (focus (intro w1 hR; obtain ⟨hc, hf⟩ := bcellB hR; (try go_simp); (try exact And.intro rfl rfl); done)); (focus (intro w1 hR; first | exact ().at_ (by first | omega | (simp; done) | (simp; omega)) hR)); (try simp only [Act.put, List.setIfInBounds_toArray, List.set_cons_succ, List.set_cons_zero])) | (apply wpR_val_want rfl; (focus (intro w1 hR; obtain ⟨hc, hf⟩ := bcellB hR; (try go_simp); (try exact Eq.refl _); done)); (try simp only [Act.put, List.setIfInBounds_toArray, List.set_cons_succ, List.set_cons_zero])) | (apply wpR_call_want rfl; (focus (intro w1 hR; obtain ⟨hc, hf⟩ := bcellB hR; (try go_simp); (try exact And.intro rfl rfl); done)); (focus (intro w1 hR; first | exact ().at_ (by first | omega | (simp; done) | (simp; omega)) hR)); (try simp only [Act.put, List.setIfInBounds_toArray, List.set_cons_succ, List.set_cons_zero]))))
      refine wpR_nil (fun w2 hb2 => ?_)
      have hcon := take_contains ys j x y Hy.out
      cases e : (x == y)
      · rw [e, Bool.or_false] at hcon
        go_wp2_with fail
        rw [hcon]
        exact ⟨_, _, _, _, _, _, _, _, _, _, _, _, _, _, _, _, _, _, _, _, _, _, _, _, _, rfl, hb.trans (hb2.mono hb.size)⟩
      · rw [e, Bool.or_true] at hcon
        go_wp2_with fail
        rw [hcon]
        exact ⟨_, _, _, _, _, _, _, _, _, _, _, _, _, _, _, _, _, _, _, _, _, _, _, _, _, rfl, hb.trans (hb2.mono hb.size)⟩
    · rintro a w' ⟨u2, u3, u8, u9, u10, u11, u12, u13, u14, u15, u16, u17, u18, u19, u20, u21, u22, u23, u24, u25, u26, u27, u28, u29, u30, rfl, hb⟩
      rw [List.take_length]
      have hall' := take_all xs ys i x hx
      cases e : ys.contains x
      · have hno := within_not hx e
        go_wp2_with fail
        all_goals go_ret
        all_goals exact ⟨ret_bool hno.symm, hb⟩
      · rw [hall, e] at hall'
        have hwr : IntKind.i64.wrap ((i : Int) + 1) = ((i + 1 : Nat) : Int) := by
          have hm : maxLen = 9223372036854775807 := rfl
          rw [IntWalk.i64_in _ ⟨by omega, by omega⟩]; rfl
        go_wp2_with fail
        all_goals exact ⟨_, _, _, _, _, _, _, _, _, _, _, _, _, _, _, _, _, _, _, _, _, _, _, _, _, _, _, rfl, hb, hall'⟩
  · rintro a w' ⟨u2, u3, u6, u7, u8, u9, u10, u11, u12, u13, u14, u15, u16, u17, u18, u19, u20, u21, u22, u23, u24, u25, u26, u27, u28, u29, u30, rfl, hb, hall⟩
    rw [List.take_length] at hall
    go_wp2_with fail
    all_goals go_ret
    all_goals exact ⟨ret_bool hall.symm, hb⟩
end Go.Proofs.Ytboanmhibbhceaa
