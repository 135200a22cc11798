/- ask: Len, Count, Words, Summary. -/
import Derived.Test.YtckbckdaffdjmaaDoorMdF
namespace Go.Proofs.YtckbckdaffdjmaaDoor
open Go.RowKit
set_option maxRecDepth 100000
set_option linter.unusedVariables false
set_option linter.unusedSimpArgs false

/-- The question, just boxed. -/
theorem boxedOp (w : World) (cs : List Value) : ∃ w0 A, w0 = w.alloc (.cells cs.toArray 39) ∧ A = w.heap.size ∧ Rw w0 A 39 cs ∧ Below w.heap.size w w0 :=
  ⟨_, _, rfl, rfl, heap_new _ _ _ rfl, below_alloc1 _ _⟩
/-- What a call of the pair is told by. -/
structure PrB (w : World) (P p bw ba r bb b n : Nat) (W : List UInt64) (own : Nat → Prop) (late : Bool) (N : Nat) : Prop where
  pr : Pr w P p bw ba r bb b n W
  bk : Bok w b own late N
  no : ∀ k, Pr.At P p bw ba r bb k → ¬ own k
theorem PrB.below {w w' : World} {P p bw ba r bb b n N : Nat} {W : List UInt64} {own : Nat → Prop} {late : Bool} (h : PrB w P p bw ba r bb b n W own late N) (hb : Below w.heap.size w w') : PrB w' P p bw ba r bb b n W own late N := ⟨h.pr.below hb, h.bk.below hb, h.no⟩
/-- What an answer of the pair leaves. -/
def AskP (w : World) (b : Nat) (own : Nat → Prop) (late : Bool) (N : Nat) (e : Ending) (w' : World) : Prop :=
  e = .returned (.bool true) ∧ ∃ own', Bok w' b own' late (N + 2) ∧ (∀ k, k < w.heap.size → (own' k ↔ own k)) ∧ Mod own w w'
theorem AskP.pure {w w' : World} {b N : Nat} {own : Nat → Prop} {late : Bool} (hb : Bok w b own late N) (h : Below w.heap.size w w') : AskP w b own late N (.returned (.bool true)) w' :=
  ⟨rfl, own, (hb.below h).more (by omega), fun _ _ => Iff.rfl, Mod.of_below h⟩
set_option maxHeartbeats 8000000 in
theorem ask_len {w : World} {P p bw ba r bb b n N : Nat} {W : List UInt64} {own : Nat → Prop} {late : Bool} (h : PrB w P p bw ba r bb b n W own late N) (s2 wv bf ac ag : Value) (A B : Int) :
    Calls Tryd.prog 18 #[.pointer (some ⟨P, 0, none⟩), .agg #[.int .i64 11, s2, .int .i64 A, .int .i64 B, wv, bf, ac, ag]] w (AskP w b own late N) := by
  obtain ⟨w0, D, hw0, hD, hrd, hb0⟩ := boxedOp w [.int .i64 11, s2, .int .i64 A, .int .i64 B, wv, bf, ac, ag]
  have HH := Lib.hid h
  have h0 := h.below hb0
  have HB0 := Lib.hid hb0
  have cd0 := hrd.cell (i := 0) rfl
  have cp0 := h0.pr.hP.cell (i := 0) rfl
  have cp1 := h0.pr.hP.cell (i := 1) rfl
  have lp := heap_lt h0.pr.hP
  have lr := heap_lt h0.pr.hr.hs
  have HM := Lib.hid h0.pr.hm
  have cr0 := h0.pr.hr.hs.cell (i := 0) rfl
  rw [Bm.bools_length] at cr0
  go_enter Tryd.func18, Tryd.ntmps18
  go_upto_region 1 with fail
  rw [← hw0, ← hD]
  clear h hrd hw0 hD h0
  go_upto_region 17 with fail
  refine wp_region_R (Below w0.heap.size w0) (by kernel_rfl) (by kernel_rfl) (by first | exact Below.refl _ _ | exact below_alloc1 _ _ | exact below_alloc2 _ _ _ | exact below_alloc3 _ _ _ _ | (repeat' (first | assumption | exact Below.refl _ _ | exact below_alloc1 _ _ | exact below_alloc2 _ _ _ | exact below_alloc3 _ _ _ _ | (refine Below.drew ?_) | (refine below_wb ?_ ?_) | (refine Below.alloc ?_ ?_ _) | omega | (simp; done) | (simp; omega)))) ?_
  (repeat (first | (apply wpR_pass rfl; (try simp only [Act.put, List.setIfInBounds_toArray, List.set_cons_succ, List.set_cons_zero])) | (apply wpR_val rfl; (focus (intro w1 hR; obtain ⟨hc, hf⟩ := bcellB hR; (try go_simp); (try exact Eq.refl _); done)); (try simp only [Act.put, List.setIfInBounds_toArray, List.set_cons_succ, List.set_cons_zero])) | (apply wpR_call rfl; (focus (intro w1 hR; obtain ⟨hc, hf⟩ := bcellB hR; (try go_simp); (try exact And.intro rfl rfl); done)); (focus (intro w1 hR; first | exact (len_calls (HM.out.below hR)).at_ (by first | omega | (simp; done) | (simp; omega)) hR)); (try simp only [Act.put, List.setIfInBounds_toArray, List.set_cons_succ, List.set_cons_zero])) | (apply wpR_val_want rfl; (focus (intro w1 hR; obtain ⟨hc, hf⟩ := bcellB hR; (try go_simp); (try exact Eq.refl _); done)); (try simp only [Act.put, List.setIfInBounds_toArray, List.set_cons_succ, List.set_cons_zero])) | (apply wpR_call_want rfl; (focus (intro w1 hR; obtain ⟨hc, hf⟩ := bcellB hR; (try go_simp); (try exact And.intro rfl rfl); done)); (focus (intro w1 hR; first | exact (len_calls (HM.out.below hR)).at_ (by first | omega | (simp; done) | (simp; omega)) hR)); (try simp only [Act.put, List.setIfInBounds_toArray, List.set_cons_succ, List.set_cons_zero]))))
  refine wpR_nil (fun w1 hb1 => ?_)
  go_wp2_with fail
  go_ret
  exact AskP.pure HH.out.bk (HB0.out.trans (hb1.mono HB0.out.size))
theorem cnt_bools {n : Nat} {W : List UInt64} (h : Bm.Ok n W) : Bm.cnt (fun i => (Bm.bools n W).getD i false) 0 (Bm.bools n W).length = Bm.ones' W := by
  rw [Bm.ones_ok h, Bm.bools_length]
  exact Bm.cnt_congr n fun t ht => by rw [Nat.zero_add, Bm.bools_getD, decide_eq_true ht, Bool.true_and]
set_option maxHeartbeats 8000000 in
theorem ask_count {w : World} {P p bw ba r bb b n N : Nat} {W : List UInt64} {own : Nat → Prop} {late : Bool} (h : PrB w P p bw ba r bb b n W own late N) (s2 wv bf ac ag : Value) (A B : Int) :
    Calls Tryd.prog 18 #[.pointer (some ⟨P, 0, none⟩), .agg #[.int .i64 7, s2, .int .i64 A, .int .i64 B, wv, bf, ac, ag]] w (AskP w b own late N) := by
  obtain ⟨w0, D, hw0, hD, hrd, hb0⟩ := boxedOp w [.int .i64 7, s2, .int .i64 A, .int .i64 B, wv, bf, ac, ag]
  have HH := Lib.hid h
  have h0 := h.below hb0
  have HB0 := Lib.hid hb0
  have cd0 := hrd.cell (i := 0) rfl
  have cp0 := h0.pr.hP.cell (i := 0) rfl
  have cp1 := h0.pr.hP.cell (i := 1) rfl
  have lp := heap_lt h0.pr.hP
  have lr := heap_lt h0.pr.hr.hs
  have HM := Lib.hid h0.pr.hm
  have HR : Hid (∀ w1, Below w0.heap.size w0 w1 → Pur Tryd.prog 59 #[.pointer (some ⟨r, 0, none⟩)] w1 (.int .i64 (Bm.ones' W : Nat))) := Lib.hid fun w1 hR => by
    rw [← cnt_bools h0.pr.hm.ok]; exact rcount_calls (h0.pr.hr.below hR)
  go_enter Tryd.func18, Tryd.ntmps18
  go_upto_region 1 with fail
  rw [← hw0, ← hD]
  clear h hrd hw0 hD h0
  go_upto_region 7 with fail
  refine wp_region_R (Below w0.heap.size w0) (by kernel_rfl) (by kernel_rfl) (by first | exact Below.refl _ _ | exact below_alloc1 _ _ | exact below_alloc2 _ _ _ | exact below_alloc3 _ _ _ _ | (repeat' (first | assumption | exact Below.refl _ _ | exact below_alloc1 _ _ | exact below_alloc2 _ _ _ | exact below_alloc3 _ _ _ _ | (refine Below.drew ?_) | (refine below_wb ?_ ?_) | (refine Below.alloc ?_ ?_ _) | omega | (simp; done) | (simp; omega)))) ?_
  (repeat (first | (apply wpR_pass rfl; (try simp only [Act.put, List.setIfInBounds_toArray, List.set_cons_succ, List.set_cons_zero])) | (apply wpR_val rfl; (focus (intro w1 hR; obtain ⟨hc, hf⟩ := bcellB hR; (try go_simp); (try exact Eq.refl _); done)); (try simp only [Act.put, List.setIfInBounds_toArray, List.set_cons_succ, List.set_cons_zero])) | (apply wpR_call rfl; (focus (intro w1 hR; obtain ⟨hc, hf⟩ := bcellB hR; (try go_simp); (try exact And.intro rfl rfl); done)); (focus (intro w1 hR; first | exact (count_calls (HM.out.below hR)).at_ (by first | omega | (simp; done) | (simp; omega)) hR | exact (HR.out w1 hR).at_ (by first | omega | (simp; done) | (simp; omega)) hR)); (try simp only [Act.put, List.setIfInBounds_toArray, List.set_cons_succ, List.set_cons_zero])) | (apply wpR_val_want rfl; (focus (intro w1 hR; obtain ⟨hc, hf⟩ := bcellB hR; (try go_simp); (try exact Eq.refl _); done)); (try simp only [Act.put, List.setIfInBounds_toArray, List.set_cons_succ, List.set_cons_zero])) | (apply wpR_call_want rfl; (focus (intro w1 hR; obtain ⟨hc, hf⟩ := bcellB hR; (try go_simp); (try exact And.intro rfl rfl); done)); (focus (intro w1 hR; first | exact (count_calls (HM.out.below hR)).at_ (by first | omega | (simp; done) | (simp; omega)) hR | exact (HR.out w1 hR).at_ (by first | omega | (simp; done) | (simp; omega)) hR)); (try simp only [Act.put, List.setIfInBounds_toArray, List.set_cons_succ, List.set_cons_zero]))))
  refine wpR_nil (fun w1 hb1 => ?_)
  go_wp2_with fail
  go_ret
  exact AskP.pure HH.out.bk (HB0.out.trans (hb1.mono HB0.out.size))
theorem NewU.ou {w w' : World} {v : Value} {W : List UInt64} (h : NewU w w' v W) (hl : W.length ≤ 17592186044416) : OU w.heap.size w' v W := by
  obtain ⟨g, rfl, h4, h3, _⟩ := h
  refine ⟨⟨by simp, .inr ⟨g, W.length, (W.map uv).toArray, rfl, h3, h4, Nat.le_refl _, by simp only [maxLen]; omega, by simp, ?_⟩⟩, hl⟩
  simp
  exact List.take_of_length_le (by simp)
theorem NewU.bel {w w' : World} {v : Value} {W : List UInt64} (h : NewU w w' v W) : Below w.heap.size w w' := h.elim fun _ h => h.2.2.2
set_option maxHeartbeats 8000000 in
theorem ask_words {w : World} {P p bw ba r bb b n N : Nat} {W : List UInt64} {own : Nat → Prop} {late : Bool} (hK : KeepC late) (hN : N + 2 ≤ 5864062014805) (h : PrB w P p bw ba r bb b n W own late N) (s2 wv bf ac ag : Value) (A B : Int) :
    Calls Tryd.prog 18 #[.pointer (some ⟨P, 0, none⟩), .agg #[.int .i64 12, s2, .int .i64 A, .int .i64 B, wv, bf, ac, ag]] w (AskP w b own late N) := by
  obtain ⟨w0, D, hw0, hD, hrd, hb0⟩ := boxedOp w [.int .i64 12, s2, .int .i64 A, .int .i64 B, wv, bf, ac, ag]
  have HH := Lib.hid h
  have h0 := h.below hb0
  have HB0 := Lib.hid hb0
  have H0 := Lib.hid h0
  have HK := Lib.hid hK
  have HN := Lib.hid hN
  have cd0 := hrd.cell (i := 0) rfl
  have cp0 := h0.pr.hP.cell (i := 0) rfl
  have cp1 := h0.pr.hP.cell (i := 1) rfl
  have cp2 := h0.pr.hP.cell (i := 2) rfl
  have HWL : Hid (W.length ≤ 1024) := Lib.hid (by rw [h0.pr.hm.ok.len]; exact h0.pr.hm.room_le.1)
  go_enter Tryd.func18, Tryd.ntmps18
  go_upto_region 1 with fail
  rw [← hw0, ← hD]
  clear h hrd hw0 hD h0 hK hN hb0
  go_wp2_with (first
    | (go_at_call 32
       refine (words_calls H0.out.pr.hm).mono ?_
       rintro e w1 ⟨v1, rfl, hn1⟩
       have hb1 := hn1.bel
       have h1 := H0.out.below hb1
       have cq0 := h1.pr.hP.cell (i := 0) rfl
       have cq1 := h1.pr.hP.cell (i := 1) rfl
       have cq2 := h1.pr.hP.cell (i := 2) rfl
       have H1 := Lib.hid h1
       have HB1 := Lib.hid hb1
       have HN1 := Lib.hid hn1
       clear hb1 h1 hn1)
    | (go_at_call 63
       refine (rwords_calls H1.out.pr.hr).mono ?_
       rintro e w2 ⟨v2, rfl, hn2⟩
       rw [Bm.pack_bools H1.out.pr.hm.ok] at hn2
       have hb2 := hn2.bel
       have h2 := H1.out.below hb2
       have H2 := Lib.hid h2
       have HB2 := Lib.hid hb2
       have HN2 := Lib.hid hn2
       have hsw := sameWords_calls (((HN1.out.ou (by have := HWL.out; omega)).ru).below hb2) (hn2.ru (by have := HWL.out; omega))
       have HSW := Lib.hid hsw
       clear hb2 h2 hn2 hsw)
    | (go_at_call 22
       refine HSW.out.out.mono ?_
       rintro e w3 ⟨rfl, hb3⟩
       have h3 := H2.out.below hb3
       have cr2 := h3.pr.hP.cell (i := 2) rfl
       have H3 := Lib.hid h3
       have HB3 := Lib.hid hb3
       clear hb3 h3)
    | (go_at_call 23
       have hO3 := ((HN1.out.ou (by have := HWL.out; omega)).below HB2.out).below HB3.out
       refine (HK.out.run H3.out.bk (hO3.more (Nat.zero_le _)) (by have := HWL.out; omega) (fun g e e' => by have h1 := (hO3.lt g e).1; have h2 := HH.out.bk.lt g e'; have h3 := HB0.out.size; omega) HN.out).mono ?_
       rintro e w4 ⟨rfl, own', hbok, hlow, hm⟩
       have HO3 := Lib.hid hO3
       have HBOK := Lib.hid hbok
       have HLOW := Lib.hid hlow
       have HM := Lib.hid hm
       clear hO3 hbok hlow hm)
    | fail)
  go_ret
  have hs0 := HB0.out.size
  have hs1 := HB1.out.size
  have hs2 := HB2.out.size
  have hs3 := HB3.out.size
  have hlt := fun g e => (HO3.out.lt g e).1
  refine ⟨rfl, own', HBOK.out, fun k hk => (HLOW.out k (by omega)).trans ⟨fun e => e.elim id fun e => by have := hlt k e; omega, .inl⟩, ?_⟩
  exact ((((Mod.of_below HB0.out).onB HB1.out).onB HB2.out).onB HB3.out).on HM.out (fun k e => e.elim .inl fun e => .inr (by have := hlt k e; omega))
set_option maxHeartbeats 8000000 in
theorem ask_summary {w : World} {P p bw ba r bb b n N : Nat} {W : List UInt64} {own : Nat → Prop} {late : Bool} (hK : KeepC late) (hN : N + 2 ≤ 5864062014805) (h : PrB w P p bw ba r bb b n W own late N) (s2 wv bf ac ag : Value) (A B : Int) :
    Calls Tryd.prog 18 #[.pointer (some ⟨P, 0, none⟩), .agg #[.int .i64 13, s2, .int .i64 A, .int .i64 B, wv, bf, ac, ag]] w (AskP w b own late N) := by
  obtain ⟨w0, D, hw0, hD, hrd, hb0⟩ := boxedOp w [.int .i64 13, s2, .int .i64 A, .int .i64 B, wv, bf, ac, ag]
  have HH := Lib.hid h
  have h0 := h.below hb0
  have HB0 := Lib.hid hb0
  have H0 := Lib.hid h0
  have HK := Lib.hid hK
  have HN := Lib.hid hN
  have cd0 := hrd.cell (i := 0) rfl
  have cp0 := h0.pr.hP.cell (i := 0) rfl
  have cp1 := h0.pr.hP.cell (i := 1) rfl
  have cp2 := h0.pr.hP.cell (i := 2) rfl
  have HWL : Hid ((Bm.upper W).length ≤ 1024) := Lib.hid (by rw [Bm.upper_length, h0.pr.hm.ok.len]; have := h0.pr.hm.room_le.2; omega)
  go_enter Tryd.func18, Tryd.ntmps18
  go_upto_region 1 with fail
  rw [← hw0, ← hD]
  clear h hrd hw0 hD h0 hK hN hb0
  go_wp2_with (first
    | (go_at_call 64
       refine (summary_calls H0.out.pr.hm).mono ?_
       rintro e w1 ⟨v1, rfl, hn1⟩
       have hb1 := hn1.bel
       have h1 := H0.out.below hb1
       have cq0 := h1.pr.hP.cell (i := 0) rfl
       have cq1 := h1.pr.hP.cell (i := 1) rfl
       have cq2 := h1.pr.hP.cell (i := 2) rfl
       have H1 := Lib.hid h1
       have HB1 := Lib.hid hb1
       have HN1 := Lib.hid hn1
       clear hb1 h1 hn1)
    | (go_at_call 65
       refine (rsummary_calls H1.out.pr.hr).mono ?_
       rintro e w2 ⟨v2, rfl, hn2⟩
       rw [Bm.pack_bools H1.out.pr.hm.ok] at hn2
       have hb2 := hn2.bel
       have h2 := H1.out.below hb2
       have H2 := Lib.hid h2
       have HB2 := Lib.hid hb2
       have HN2 := Lib.hid hn2
       have hsw := sameWords_calls (((HN1.out.ou (by have := HWL.out; omega)).ru).below hb2) (hn2.ru (by have := HWL.out; omega))
       have HSW := Lib.hid hsw
       clear hb2 h2 hn2 hsw)
    | (go_at_call 22
       refine HSW.out.out.mono ?_
       rintro e w3 ⟨rfl, hb3⟩
       have h3 := H2.out.below hb3
       have cr2 := h3.pr.hP.cell (i := 2) rfl
       have H3 := Lib.hid h3
       have HB3 := Lib.hid hb3
       clear hb3 h3)
    | (go_at_call 23
       have hO3 := ((HN1.out.ou (by have := HWL.out; omega)).below HB2.out).below HB3.out
       refine (HK.out.run H3.out.bk (hO3.more (Nat.zero_le _)) (by have := HWL.out; omega) (fun g e e' => by have h1 := (hO3.lt g e).1; have h2 := HH.out.bk.lt g e'; have h3 := HB0.out.size; omega) HN.out).mono ?_
       rintro e w4 ⟨rfl, own', hbok, hlow, hm⟩
       have HO3 := Lib.hid hO3
       have HBOK := Lib.hid hbok
       have HLOW := Lib.hid hlow
       have HM := Lib.hid hm
       clear hO3 hbok hlow hm)
    | fail)
  go_ret
  have hs0 := HB0.out.size
  have hs1 := HB1.out.size
  have hs2 := HB2.out.size
  have hs3 := HB3.out.size
  have hlt := fun g e => (HO3.out.lt g e).1
  refine ⟨rfl, own', HBOK.out, fun k hk => (HLOW.out k (by omega)).trans ⟨fun e => e.elim id fun e => by have := hlt k e; omega, .inl⟩, ?_⟩
  exact ((((Mod.of_below HB0.out).onB HB1.out).onB HB2.out).onB HB3.out).on HM.out (fun k e => e.elim .inl fun e => .inr (by have := hlt k e; omega))
end Go.Proofs.YtckbckdaffdjmaaDoor
