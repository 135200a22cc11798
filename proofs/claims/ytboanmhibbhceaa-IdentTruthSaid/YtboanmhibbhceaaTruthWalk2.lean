/- IdentTruth: the state of a play in memory, and the walks of what reads it. -/
import Derived.Test.YtboanmhibbhceaaTruthWalk1
import Derived.Laws.AppendOwn
namespace Go.Proofs.Ytboanmhibbhceaa
open Go.RowKit
set_option linter.unusedVariables false
set_option linter.unusedSimpArgs false

abbrev pcells (s : Truth.St) (v0 v1 : Value) : Array Value :=
  #[.int .u64 s.a.g.c, .int .u64 s.a.g.b, .int .u64 s.a.g.o, .int .u64 s.a.g.p, .int .u64 s.b.g.c, .int .u64 s.b.g.b, .int .u64 s.b.g.o, .int .u64 s.b.g.p,
    .bool s.a.whole, .bool s.b.whole, v0, v1, .int .i64 s.next, .int .u64 s.number, .int .i64 s.source, .bool s.taken, .bool s.half]

/-- A slice of the play's own, with its ints. -/
def Own (B : Nat) (w : World) (v : Value) (xs : List Int) : Prop := w.ownsRow B 3 1 v xs.length (xs.map (Value.int .i64))

theorem Own.form {B : Nat} {w : World} {v : Value} {xs : List Int} (h : Own B w v xs) : ∃ p c, v = .slice p xs.length c ∧ Lies w p xs ∧ xs.length ≤ maxLen := by
  obtain ⟨hl, ⟨rfl, hn⟩ | ⟨g, cap, cur, rfl, hB, hg, hn, hc, hs, ht⟩⟩ := h
  · have : xs = [] := List.eq_nil_of_length_eq_zero hn
    subst this
    exact ⟨none, 0, rfl, fun h => absurd rfl h, Nat.zero_le _⟩
  · refine ⟨some ⟨g, 0, none⟩, cap, rfl, fun hne => ⟨g, rfl, ?_, fun i x hx => ?_⟩, Nat.le_trans hn hc⟩
    · rcases Nat.lt_or_ge g w.heap.size with h' | h'
      · exact h'
      · rw [Array.getElem?_eq_none h'] at hg; cases hg
    · have hi : i < xs.length := (List.getElem?_eq_some_iff.1 hx).1
      have h1 : (cur.toList.take (xs.length * 1))[i]? = some (.int .i64 x) := by rw [ht]; simp [hx]
      rw [List.getElem?_take] at h1
      rw [if_pos (by omega)] at h1
      simp only [World.cell?, hg]
      simpa using h1

structure PS (B bp : Nat) (w0 : World) (s : Truth.St) (w : World) (v0 v1 : Value) : Prop where
  below : Below B w0 w
  hB : B ≤ bp
  sB : B ≤ w.heap.size
  blk : w.heap[bp]? = some (.cells (pcells s v0 v1) 52 (0, 0))
  o0 : Own B w v0 s.a.has
  o1 : Own B w v1 s.b.has
  d0 : v0.ownBlock ≠ some bp
  d1 : v1.ownBlock ≠ some bp
  d : ∀ k, v0.ownBlock = some k → v1.ownBlock ≠ some k

theorem PS.lt {B bp : Nat} {w0 w : World} {s : Truth.St} {v0 v1 : Value} (h : PS B bp w0 s w v0 v1) : bp < w.heap.size := by
  rcases Nat.lt_or_ge bp w.heap.size with h' | h'
  · exact h'
  · have := h.blk; rw [Array.getElem?_eq_none h'] at this; cases this

theorem has_cell' {w : World} {b : Nat} {c : Array Value} {t : TypeId} (h : w.heap[b]? = some (.cells c t (0, 0))) (o : Nat) : w.cell? ⟨b, o, none⟩ = c[o]? := by simp [World.cell?, h]

set_option maxRecDepth 100000 in
set_option maxHeartbeats 8000000 in
theorem truth_calls {B bp : Nat} {w0 w : World} {s : Truth.St} {v0 v1 : Value} (h : PS B bp w0 s w v0 v1) : Pur Try.prog 45 #[.pointer (some ⟨bp, 0, none⟩)] w (.int .i64 (Truth.truth s.a s.b)) := by
  unfold Pur
  obtain ⟨p0, c0, rfl, L0, l0⟩ := h.o0.form
  obtain ⟨p1, c1, rfl, L1, l1⟩ := h.o1.form
  have hp := has_cell' h.blk
  have hlt := h.lt
  clear h
  obtain ⟨⟨ga, wa, xs⟩, ⟨gb, wb, ys⟩, nx, nu, so, tk, hf⟩ := s
  simp only at hp L0 l0 L1 l1 ⊢
  cases wa <;> cases wb
  · go_enter Try.func45, Try.ntmps45
    go_wp2_with fail
    all_goals go_ret
    all_goals exact ⟨rfl, Below.refl _ _⟩
  · go_enter Try.func45, Try.ntmps45
    go_wp2_with fail
    all_goals go_ret
    all_goals exact ⟨rfl, Below.refl _ _⟩
  · go_enter Try.func45, Try.ntmps45
    go_wp2_with fail
    all_goals go_ret
    all_goals exact ⟨rfl, Below.refl _ _⟩
  · go_enter Try.func45, Try.ntmps45
    go_wp2_with fail
    refine wp_region_here (by kernel_rfl) (by kernel_rfl) ?_
    (repeat (first | (apply wpR_pass rfl; (try simp only [Act.put, List.setIfInBounds_toArray, List.set_cons_succ, List.set_cons_zero])) | (apply wpR_val rfl; (focus (intro w1 hR; obtain ⟨hc, hf⟩ := bcellB hR; (try go_simp); (try exact Eq.refl _); done)); (try simp only [Act.put, List.setIfInBounds_toArray, List.set_cons_succ, List.set_cons_zero])) | (apply wpR_call rfl; (focus (intro w1 hR; obtain ⟨hc, hf⟩ := bcellB hR; (try go_simp); (try exact And.intro rfl rfl); done)); (focus (intro w1 hR; first | exact (within_calls p1 p0 c1 c0 ys xs w1 (L1.below hR) (L0.below hR) l1 l0).at_ (by first | omega | (simp; done) | (simp; omega)) hR)); (try simp only [Act.put, List.setIfInBounds_toArray, List.set_cons_succ, List.set_cons_zero])) | (apply wpR_val_want rfl; (focus (intro w1 hR; obtain ⟨hc, hf⟩ := bcellB hR; (try go_simp); (try exact Eq.refl _); done)); (try simp only [Act.put, List.setIfInBounds_toArray, List.set_cons_succ, List.set_cons_zero])) | (apply wpR_call_want rfl; (focus (intro w1 hR; obtain ⟨hc, hf⟩ := bcellB hR; (try go_simp); (try exact And.intro rfl rfl); done)); (focus (intro w1 hR; first | exact (within_calls p1 p0 c1 c0 ys xs w1 (L1.below hR) (L0.below hR) l1 l0).at_ (by first | omega | (simp; done) | (simp; omega)) hR)); (try simp only [Act.put, List.setIfInBounds_toArray, List.set_cons_succ, List.set_cons_zero]))))
    refine wpR_nil (fun w2 hb2 => ?_)
    have hp2 : ∀ o, w2.cell? ⟨bp, o, none⟩ = _ := fun o => ((bcell hb2).1 _ o hlt).trans (hp o)
    have hlt2 : bp < w2.heap.size := Nat.lt_of_lt_of_le hlt hb2.size
    have L02 := L0.below hb2
    have L12 := L1.below hb2
    clear hp hlt L0 L1
    go_wp2_with fail
    refine wp_region_here (by kernel_rfl) (by kernel_rfl) ?_
    (repeat (first | (apply wpR_pass rfl; (try simp only [Act.put, List.setIfInBounds_toArray, List.set_cons_succ, List.set_cons_zero])) | (apply wpR_val rfl; (focus (intro w1 hR; obtain ⟨hc, hf⟩ := bcellB hR; (try go_simp); (try exact Eq.refl _); done)); (try simp only [Act.put, List.setIfInBounds_toArray, List.set_cons_succ, List.set_cons_zero])) | (apply wpR_call rfl; (focus (intro w1 hR; obtain ⟨hc, hf⟩ := bcellB hR; (try go_simp); (try exact And.intro rfl rfl); done)); (focus (intro w1 hR; first | exact (within_calls p0 p1 c0 c1 xs ys w1 (L02.below hR) (L12.below hR) l0 l1).at_ (by first | omega | (simp; done) | (simp; omega)) hR)); (try simp only [Act.put, List.setIfInBounds_toArray, List.set_cons_succ, List.set_cons_zero])) | (apply wpR_val_want rfl; (focus (intro w1 hR; obtain ⟨hc, hf⟩ := bcellB hR; (try go_simp); (try exact Eq.refl _); done)); (try simp only [Act.put, List.setIfInBounds_toArray, List.set_cons_succ, List.set_cons_zero])) | (apply wpR_call_want rfl; (focus (intro w1 hR; obtain ⟨hc, hf⟩ := bcellB hR; (try go_simp); (try exact And.intro rfl rfl); done)); (focus (intro w1 hR; first | exact (within_calls p0 p1 c0 c1 xs ys w1 (L02.below hR) (L12.below hR) l0 l1).at_ (by first | omega | (simp; done) | (simp; omega)) hR)); (try simp only [Act.put, List.setIfInBounds_toArray, List.set_cons_succ, List.set_cons_zero]))))
    refine wpR_nil (fun w3 hb3 => ?_)
    have hb4 : Below w.heap.size w w3 := hb2.trans (hb3.mono hb2.size)
    clear hp2 L02 L12
    cases e1 : Truth.within ys xs <;> cases e2 : Truth.within xs ys
    all_goals go_wp2_with fail
    all_goals go_ret
    all_goals exact ⟨ret_i64 (by simp [Truth.truth, e1, e2]), hb4⟩

set_option maxRecDepth 100000 in
set_option maxHeartbeats 8000000 in
theorem apart_calls_p {B bp : Nat} {w0 w : World} {s : Truth.St} {v0 v1 : Value} (h : PS B bp w0 s w v0 v1) (hs : Truth.Shape s.a s.b) : Pur Try.prog 26 #[.pointer (some ⟨bp, 0, none⟩)] w (.bool true) := by
  unfold Pur
  have hp := has_cell' h.blk
  have hlt := h.lt
  clear h
  have hap := hs.apart
  clear hs
  obtain ⟨⟨ga, wa, xs⟩, ⟨gb, wb, ys⟩, nx, nu, so, tk, hf⟩ := s
  simp only at hp hap ⊢
  cases e1 : (ga.b == 0) <;> cases e2 : (gb.b == 0)
  all_goals first
    | (go_enter Try.func26, Try.ntmps26
       go_wp2_with fail
       go_ret
       exact ⟨rfl, Below.refl _ _⟩)
    | (have e3 : (ga.c != gb.c) = true := by
         rcases hap with ⟨h1, h2⟩ | h
         · exfalso; simp only [beq_eq_false_iff_ne, ne_eq, beq_iff_eq] at e1 e2; omega
         · simpa using h
       clear hap
       go_enter Try.func26, Try.ntmps26
       go_wp2_with fail
       refine wp_region_here (by kernel_rfl) (by kernel_rfl) ?_
       (repeat (first | (apply wpR_pass rfl; (try simp only [Act.put, List.setIfInBounds_toArray, List.set_cons_succ, List.set_cons_zero])) | (apply wpR_val rfl; (focus (intro w1 hR; obtain ⟨hc, hf⟩ := bcellB hR; (try go_simp); (try exact Eq.refl _); done)); (try simp only [Act.put, List.setIfInBounds_toArray, List.set_cons_succ, List.set_cons_zero])) | (apply wpR_call rfl; (focus (intro w1 hR; obtain ⟨hc, hf⟩ := bcellB hR; (try go_simp); (try exact And.intro rfl rfl); done)); (focus (intro w1 hR; first | exact ().at_ (by first | omega | (simp; done) | (simp; omega)) hR)); (try simp only [Act.put, List.setIfInBounds_toArray, List.set_cons_succ, List.set_cons_zero])) | (apply wpR_val_want rfl; (focus (intro w1 hR; obtain ⟨hc, hf⟩ := bcellB hR; (try go_simp); (try exact Eq.refl _); done)); (try simp only [Act.put, List.setIfInBounds_toArray, List.set_cons_succ, List.set_cons_zero])) | (apply wpR_call_want rfl; (focus (intro w1 hR; obtain ⟨hc, hf⟩ := bcellB hR; (try go_simp); (try exact And.intro rfl rfl); done)); (focus (intro w1 hR; first | exact ().at_ (by first | omega | (simp; done) | (simp; omega)) hR)); (try simp only [Act.put, List.setIfInBounds_toArray, List.set_cons_succ, List.set_cons_zero]))))
       refine wpR_nil (fun w2 hb2 => ?_)
       go_wp2_with fail
       go_ret
       exact ⟨rfl, hb2⟩)
end Go.Proofs.Ytboanmhibbhceaa
