/- IdentTruth: every deed of a play keeps its promise. -/
import Derived.Test.YtboanmhibbhceaaTruthWalk13
namespace Go.Proofs.Ytboanmhibbhceaa
open Go.RowKit
set_option linter.unusedVariables false
set_option linter.unusedSimpArgs false
variable {B bp : Nat} {w0 w w' : World} {v0 v1 : Value} {s : Truth.St} {k : Int}

/-- Behind a deed: true, and the play goes on. -/
def Goes (B bp : Nat) (w0 : World) (k : Int) (w' : World) : Prop := ∃ s' v0' v1', Inv2 k s' ∧ PS B bp w0 s' w' v0' v1'

theorem Inv2.next (h : Inv2 k s) : Inv2 (k + 1) s := ⟨h.inv, h.n0, by have := h.nk; omega, h.x0, by have := h.xk; omega, by have := h.ha; omega, by have := h.hb; omega⟩
theorem Inv2.src (h : Inv2 k s) : s.source = -1 ∨ s.source = 0 ∨ s.source = 1 := by
  rcases h.inv.src with h | ⟨h, _⟩ | ⟨h, _⟩
  · exact .inl h
  · exact .inr (.inl h)
  · exact .inr (.inr h)

theorem Inv2.begun (h : Inv2 k s) {m : Int} (hi : Truth.Inv (s.begin m)) : Inv2 (k + 1) (s.begin m) := by
  obtain ⟨e1, e2⟩ := @begin_has s m
  have hn : (s.begin m).number = s.number + 1 := rfl
  have hx : (s.begin m).next = s.next := by unfold Truth.St.begin Truth.St.put; split <;> rfl
  refine ⟨hi, ?_, ?_, ?_, ?_, ?_, ?_⟩
  · rw [hn]; have := h.n0; omega
  · rw [hn]; have := h.nk; omega
  · rw [hx]; exact h.x0
  · rw [hx]; have := h.xk; omega
  · rw [e1]; have := h.ha; omega
  · rw [e2]; have := h.hb; omega

theorem Inv2.written (h : Inv2 k s) {n : Int} {g : G} {w : Bool} {nu : Int} (hnu : nu = s.number ∨ nu = s.number + 1) (hn : n = 0 ∨ n = 1) (hi : Truth.Inv (s.write n g w nu)) : Inv2 (k + 1) (s.write n g w nu) := by
  have h1 := h.n0; have h2 := h.nk; have h3 := h.x0; have h4 := h.xk; have h5 := h.ha; have h6 := h.hb
  rcases hn with rfl | rfl
  · refine ⟨hi, ?_, ?_, ?_, ?_, ?_, ?_⟩
    · show 0 ≤ nu; omega
    · show nu ≤ k + 1; omega
    · show 0 ≤ s.next + 1; omega
    · show s.next + 1 ≤ k + 1; omega
    · show ((s.a.has ++ [s.next + 1]).length : Int) ≤ k + 1; rw [List.length_append]; simp; omega
    · show (s.b.has.length : Int) ≤ k + 1; omega
  · refine ⟨hi, ?_, ?_, ?_, ?_, ?_, ?_⟩
    · show 0 ≤ nu; omega
    · show nu ≤ k + 1; omega
    · show 0 ≤ s.next + 1; omega
    · show s.next + 1 ≤ k + 1; omega
    · show (s.a.has.length : Int) ≤ k + 1; omega
    · show ((s.b.has ++ [s.next + 1]).length : Int) ≤ k + 1; rw [List.length_append]; simp; omega

theorem Inv2.found (h : Inv2 k s) {n : Int} (hn : n = 0 ∨ n = 1) (hi : Truth.Inv (s.found n)) : Inv2 (k + 1) (s.found n) := by
  have h1 := h.n0; have h2 := h.nk; have h3 := h.x0; have h4 := h.xk; have h5 := h.ha; have h6 := h.hb
  rcases hn with rfl | rfl
  · refine ⟨hi, ?_, ?_, ?_, ?_, ?_, ?_⟩
    · show 0 ≤ s.number + 1; omega
    · show s.number + 1 ≤ k + 1; omega
    · show 0 ≤ s.next + 1; omega
    · show s.next + 1 ≤ k + 1; omega
    · show ((s.a.has ++ [s.next + 1]).length : Int) ≤ k + 1; rw [List.length_append]; simp; omega
    · show (s.b.has.length : Int) ≤ k + 1; omega
  · refine ⟨hi, ?_, ?_, ?_, ?_, ?_, ?_⟩
    · show 0 ≤ s.number + 1; omega
    · show s.number + 1 ≤ k + 1; omega
    · show 0 ≤ s.next + 1; omega
    · show s.next + 1 ≤ k + 1; omega
    · show (s.a.has.length : Int) ≤ k + 1; omega
    · show ((s.b.has ++ [s.next + 1]).length : Int) ≤ k + 1; rw [List.length_append]; simp; omega

theorem meet_all {f : Int} (i : Inv2 k s) (hk : k < 8796093022208) (hs : s.source < 0) (hf : f = -1 ∨ f = 0 ∨ f = 1) (w : World) (v0 v1 : Value) (h : PS B bp w0 s w v0 v1) :
    Calls Try.prog 42 #[.pointer (some ⟨bp, 0, none⟩), .int .i64 f] w fun e w' => e = .returned (.bool true) ∧ Goes B bp w0 (k + 1) w' := by
  have h1 := i.n0; have h2 := i.nk; have h3 := i.x0; have h4 := i.xk; have h5 := i.ha; have h6 := i.hb
  obtain ⟨kk, r, hv, hr, c | c | c | c | c⟩ := i.inv.meets
  · obtain ⟨rfl, ht, hsy⟩ := c
    rcases hf with rfl | rfl | rfl
    · exact (meet_same (f := -1) h hv hr ht (.inr (.inl ⟨rfl, rfl, rfl⟩)) (.inl rfl)).mono fun e w' ⟨he, hp⟩ => ⟨he, _, _, _, i.next, hp⟩
    · exact (meet_found0 h hv hr ht h1 (by omega) h3 (by omega) (by omega)).mono fun e w' ⟨he, _, _, hp⟩ => ⟨he, _, _, _, i.found (.inl rfl) (i.inv.found (.inl rfl) hsy), hp⟩
    · exact (meet_found1 h hv hr ht h1 (by omega) h3 (by omega) (by omega)).mono fun e w' ⟨he, _, _, hp⟩ => ⟨he, _, _, _, i.found (.inr rfl) (i.inv.found (.inr rfl) hsy), hp⟩
  · obtain ⟨rfl, ht⟩ := c
    exact (meet_same h hv hr ht (.inl ⟨rfl, rfl⟩) hf).mono fun e w' ⟨he, hp⟩ => ⟨he, _, _, _, i.next, hp⟩
  · obtain ⟨hkk, ht, hsh⟩ := c
    exact (meet_begin0 h hv hr ht hkk h1 (by omega)).mono fun e w' ⟨he, hp⟩ => ⟨he, _, _, _, i.begun (i.inv.begin0 hsh), hp⟩
  · obtain ⟨hkk, ht, hsh⟩ := c
    exact (meet_begin1 h hv hr ht hkk h1 (by omega)).mono fun e w' ⟨he, hp⟩ => ⟨he, _, _, _, i.begun (i.inv.begin1 hsh), hp⟩
  · obtain ⟨rfl, ht, _⟩ := c
    exact (meet_same h hv hr ht (.inr (.inr ⟨rfl, rfl⟩)) hf).mono fun e w' ⟨he, hp⟩ => ⟨he, _, _, _, i.next, hp⟩

theorem Inv2.ended (i : Inv2 k s) (hi : Truth.Inv s.ended) (hs : s.source = 0 ∨ s.source = 1) : Inv2 (k + 1) s.ended := by
  have h1 := i.n0; have h2 := i.nk; have h3 := i.x0; have h4 := i.xk; have h5 := i.ha; have h6 := i.hb
  obtain ⟨a, b, nx, nu, so, tk, hf⟩ := s
  simp only at hs h1 h2 h3 h4 h5 h6
  rcases hs with rfl | rfl
  · exact ⟨hi, h1, by show nu ≤ k + 1; omega, h3, by show nx ≤ k + 1; omega, by show (a.has.length : Int) ≤ k + 1; omega, by show (b.has.length : Int) ≤ k + 1; omega⟩
  · exact ⟨hi, h1, by show nu ≤ k + 1; omega, h3, by show nx ≤ k + 1; omega, by show (a.has.length : Int) ≤ k + 1; omega, by show (b.has.length : Int) ≤ k + 1; omega⟩
theorem Inv2.halved (i : Inv2 k s) (hi : Truth.Inv s.halved) (hs : s.source = 0 ∨ s.source = 1) : Inv2 (k + 1) s.halved := by
  have h1 := i.n0; have h2 := i.nk; have h3 := i.x0; have h4 := i.xk; have h5 := i.ha; have h6 := i.hb
  obtain ⟨a, b, nx, nu, so, tk, hf⟩ := s
  simp only at hs h1 h2 h3 h4 h5 h6
  rcases hs with rfl | rfl
  · exact ⟨hi, h1, by show nu ≤ k + 1; omega, h3, by show nx ≤ k + 1; omega, by show (a.has.length : Int) ≤ k + 1; omega, by show (a.has.length : Int) ≤ k + 1; omega⟩
  · exact ⟨hi, h1, by show nu ≤ k + 1; omega, h3, by show nx ≤ k + 1; omega, by show (b.has.length : Int) ≤ k + 1; omega, by show (b.has.length : Int) ≤ k + 1; omega⟩
theorem Inv2.heard (i : Inv2 k s) (hi : Truth.Inv s.heard) (hs : s.source = 0 ∨ s.source = 1) : Inv2 (k + 1) s.heard := by
  have h1 := i.n0; have h2 := i.nk; have h3 := i.x0; have h4 := i.xk; have h5 := i.ha; have h6 := i.hb
  obtain ⟨a, b, nx, nu, so, tk, hf⟩ := s
  simp only at hs h1 h2 h3 h4 h5 h6
  rcases hs with rfl | rfl
  · exact ⟨hi, h1, by show nu ≤ k + 1; omega, h3, by show nx ≤ k + 1; omega, by show (a.has.length : Int) ≤ k + 1; omega, by show (b.has.length : Int) ≤ k + 1; omega⟩
  · exact ⟨hi, h1, by show nu ≤ k + 1; omega, h3, by show nx ≤ k + 1; omega, by show (a.has.length : Int) ≤ k + 1; omega, by show (b.has.length : Int) ≤ k + 1; omega⟩

theorem ends_all {kd : Int} (i : Inv2 k s) (hk : k < 8796093022208) (hs : s.source = 0 ∨ s.source = 1) (hkd : kd = 4 ∨ kd = 5) (w : World) (h : PS B bp w0 s w v0 v1) :
    Calls Try.prog 43 #[.pointer (some ⟨bp, 0, none⟩), .int .i64 kd] w fun e w' => e = .returned (.tuple #[]) ∧ Goes B bp w0 (k + 1) w' := by
  have h5 := i.ha; have h6 := i.hb
  have hs0 : 0 ≤ s.source := by omega
  rcases hkd with rfl | rfl
  · cases ht : s.taken with
    | false => exact (ends_none h hs (.inl ⟨rfl, .inl ht⟩)).mono fun e w' ⟨he, hp⟩ => ⟨he, _, _, _, i.next, hp⟩
    | true =>
      cases hh : s.half with
      | true => exact (ends_none h hs (.inl ⟨rfl, .inr hh⟩)).mono fun e w' ⟨he, hp⟩ => ⟨he, _, _, _, i.next, hp⟩
      | false =>
        have hi := i.inv.halved hs0 ht hh
        rcases hs with hs | hs
        · exact (ends_half0 h hs ht hh (by omega)).mono fun e w' ⟨he, _, _, hp⟩ => ⟨he, _, _, _, i.halved hi (.inl hs), hp⟩
        · exact (ends_half1 h hs ht hh (by omega)).mono fun e w' ⟨he, _, _, hp⟩ => ⟨he, _, _, _, i.halved hi (.inr hs), hp⟩
  · cases hh : s.half with
    | false => exact (ends_none h hs (.inr ⟨rfl, hh⟩)).mono fun e w' ⟨he, hp⟩ => ⟨he, _, _, _, i.next, hp⟩
    | true =>
      have hi := i.inv.ended hs0 hh
      rcases hs with hs | hs
      · exact (ends_end0 h hs hh).mono fun e w' ⟨he, hp⟩ => ⟨he, _, _, _, i.ended hi (.inl hs), hp⟩
      · exact (ends_end1 h hs hh).mono fun e w' ⟨he, hp⟩ => ⟨he, _, _, _, i.ended hi (.inr hs), hp⟩

theorem deed_all {kd node : Int} (i : Inv2 k s) (hk : k < 8796093022208) (h : PS B bp w0 s w v0 v1) :
    Calls Try.prog 25 #[.pointer (some ⟨bp, 0, none⟩), deedV kd node] w fun e w' => e = .returned (.bool true) ∧ Goes B bp w0 (k + 1) w' := by
  have h1 := i.n0; have h2 := i.nk; have h3 := i.x0; have h4 := i.xk; have h5 := i.ha; have h6 := i.hb
  have same : ∀ {e : Ending} {w' : World}, e = .returned (.bool true) ∧ PS B bp w0 s w' v0 v1 → e = .returned (.bool true) ∧ Goes B bp w0 (k + 1) w' := fun ⟨he, hp⟩ => ⟨he, _, _, _, i.next, hp⟩
  have hsrc := i.src
  have node2 : (node.tmod 2 = 0 ∧ (0 : Int) = 0) ∨ node.tmod 2 = 1 ∨ node.tmod 2 = -1 := by rcases tmod_cases node with h | h | h <;> simp [h]
  by_cases e1 : kd = 1
  · subst e1
    by_cases hs : 0 ≤ s.source
    · exact (take_alone_on h hs).mono fun e w' => same
    rcases node2 with ⟨ht, _⟩ | ht
    · cases hw : s.a.whole with
      | false => exact (take_alone_no0 h ht hs hw).mono fun e w' => same
      | true =>
        have hi := i.inv.alone (n := 0) (.inl rfl) (by omega) hw
        by_cases hb : s.a.g.b = 0
        · have e : s.alone 0 = s.write 0 (Spec.rotate s.a.g (Truth.fresh 0 (s.number + 1))) s.a.whole (s.number + 1) := by unfold Truth.St.alone; exact if_pos hb
          rw [e] at hi
          exact (take_alone_new0 h ht hs hw hb h1 (by omega) h3 (by omega) (by omega)).mono fun e w' ⟨he, _, _, hp⟩ => ⟨he, _, _, _, i.written (.inr rfl) (.inl rfl) hi, hp⟩
        · have e : s.alone 0 = s.write 0 s.a.g s.a.whole s.number := by unfold Truth.St.alone; exact if_neg hb
          rw [e] at hi
          exact (take_alone_more0 h ht hs hw (by simpa using hb) h3 (by omega) (by omega)).mono fun e w' ⟨he, _, _, hp⟩ => ⟨he, _, _, _, i.written (.inl rfl) (.inl rfl) hi, hp⟩
    · cases hw : s.b.whole with
      | false => exact (take_alone_no1 h ht hs hw).mono fun e w' => same
      | true =>
        have hi := i.inv.alone (n := 1) (.inr rfl) (by omega) hw
        by_cases hb : s.b.g.b = 0
        · have e : s.alone 1 = s.write 1 (Spec.rotate s.b.g (Truth.fresh 1 (s.number + 1))) s.b.whole (s.number + 1) := by unfold Truth.St.alone; exact if_pos hb
          rw [e] at hi
          exact (take_alone_new1 h ht hs hw hb h1 (by omega) h3 (by omega) (by omega)).mono fun e w' ⟨he, _, _, hp⟩ => ⟨he, _, _, _, i.written (.inr rfl) (.inr rfl) hi, hp⟩
        · have e : s.alone 1 = s.write 1 s.b.g s.b.whole s.number := by unfold Truth.St.alone; exact if_neg hb
          rw [e] at hi
          exact (take_alone_more1 h ht hs hw (by simpa using hb) h3 (by omega) (by omega)).mono fun e w' ⟨he, _, _, hp⟩ => ⟨he, _, _, _, i.written (.inl rfl) (.inr rfl) hi, hp⟩
  by_cases e2 : kd = 2
  · subst e2
    by_cases hs : s.source < 0
    · by_cases n0 : node = 0
      · exact take_meet h hs (.inl ⟨n0, rfl⟩) (fun w hw => meet_all i hk hs (.inr (.inl rfl)) w _ _ hw)
      by_cases n1 : node = 1
      · exact take_meet h hs (.inr (.inl ⟨n1, rfl⟩)) (fun w hw => meet_all i hk hs (.inr (.inr rfl)) w _ _ hw)
      · exact take_meet h hs (.inr (.inr ⟨by simpa using n0, by simpa using n1, rfl⟩)) (fun w hw => meet_all i hk hs (.inl rfl) w _ _ hw)
    · exact (take_meet_on h hs).mono fun e w' => same
  by_cases e3 : kd = 3
  · subst e3
    have hi : Inv2 (k + 1) { s with source := -1 } := ⟨i.inv.break, h1, by show s.number ≤ k + 1; omega, h3, by show s.next ≤ k + 1; omega, by show (s.a.has.length : Int) ≤ k + 1; omega, by show (s.b.has.length : Int) ≤ k + 1; omega⟩
    exact (take_break h).mono fun e w' ⟨he, hp⟩ => ⟨he, _, _, _, hi, hp⟩
  by_cases e45 : kd = 4 ∨ kd = 5
  · by_cases hs : 0 ≤ s.source
    · exact take_ends h e45 hs (fun w hw => ends_all i hk (by omega) e45 w hw)
    · exact (take_ends_off h e45 hs).mono fun e w' => same
  by_cases e8 : kd = 8
  · subst e8
    by_cases hs : 0 ≤ s.source
    · cases ht : s.taken with
      | true => exact (take_heard_on h hs ht).mono fun e w' => same
      | false => exact (take_heard h (by omega) ht).mono fun e w' ⟨he, hp⟩ => ⟨he, _, _, _, i.heard (i.inv.heard hs ht) (by omega), hp⟩
    · exact (take_heard_off h hs).mono fun e w' => same
  by_cases e6 : kd = 6
  · subst e6
    by_cases hs : s.source < 0
    · by_cases ht : Truth.truth s.a s.b = 3
      · obtain ⟨kk, r, hv, hr, c | c | c | c | c⟩ := i.inv.meets
        · omega
        · omega
        · omega
        · omega
        · obtain ⟨rfl, _, hbo⟩ := c
          rcases node2 with ⟨hn, _⟩ | hn | hn
          · exact (take_give (n := 0) (k := 0) h (.inl ⟨hn, rfl⟩) hs ht hv hr h1 (by omega)).mono fun e w' ⟨he, hp⟩ => ⟨he, _, _, _, i.begun (i.inv.begin1 (.inr (.inl hbo.symm))), hp⟩
          · exact (take_give (n := 1) (k := 0) h (.inr (.inl ⟨hn, rfl⟩)) hs ht hv hr h1 (by omega)).mono fun e w' ⟨he, hp⟩ => ⟨he, _, _, _, i.begun (i.inv.begin0 (.inr (.inl hbo))), hp⟩
          · exact (take_give (n := 1) (k := 0) h (.inr (.inr ⟨hn, rfl⟩)) hs ht hv hr h1 (by omega)).mono fun e w' ⟨he, hp⟩ => ⟨he, _, _, _, i.begun (i.inv.begin0 (.inr (.inl hbo))), hp⟩
      · exact (take_give_no h hs (by simpa using ht)).mono fun e w' => same
    · exact (take_give_on h hs).mono fun e w' => same
  by_cases e7 : kd = 7
  · subst e7
    by_cases hs : s.source < 0
    · cases hwa : s.a.whole with
      | true => exact (take_force_no h hs (.inl hwa)).mono fun e w' => same
      | false =>
        cases hwb : s.b.whole with
        | true => exact (take_force_no h hs (.inr ⟨hwa, hwb⟩)).mono fun e w' => same
        | false =>
          rcases node2 with ⟨hn, _⟩ | hn
          · exact (take_force0 h hn hs hwa hwb h1 (by omega) h3 (by omega) (by omega)).mono fun e w' ⟨he, _, _, hp⟩ => ⟨he, _, _, _, i.written (.inr rfl) (.inl rfl) (i.inv.force (.inl rfl) hs hwa hwb), hp⟩
          · exact (take_force1 h hn hs hwa hwb h1 (by omega) h3 (by omega) (by omega)).mono fun e w' ⟨he, _, _, hp⟩ => ⟨he, _, _, _, i.written (.inr rfl) (.inr rfl) (i.inv.force (.inr rfl) hs hwa hwb), hp⟩
    · exact (take_force_on h hs).mono fun e w' => same
  exact (take_other h (by simpa using e1) (by simpa using e2) (by simpa using e3) (by simpa using fun e => e45 (.inl e)) (by simpa using fun e => e45 (.inr e)) (by simpa using e6) (by simpa using e7) (by simpa using e8)).mono fun e w' => same
end Go.Proofs.Ytboanmhibbhceaa
