/- The statement BitmapNews: the walk. -/
import Derived.Test.YtckbckdaffdjmaaDoorAskA
namespace Go.Proofs.YtckbckdaffdjmaaDoor
open Go.RowKit
set_option maxRecDepth 100000
set_option linter.unusedVariables false
set_option linter.unusedSimpArgs false

/-- Where a law stands with a Book: all that was there at the start is as it was. -/
structure At3 (W0 w : World) (own : Nat → Prop) : Prop where
  mod : Mod (fun k => W0.heap.size ≤ k) W0 w
  own : ∀ k, own k → W0.heap.size ≤ k
theorem At3.ask {W0 w w' : World} {own own' : Nat → Prop} (h : At3 W0 w own) (hl : ∀ k, k < w.heap.size → (own' k ↔ own k)) (hm : Mod own w w') : At3 W0 w' own' :=
  ⟨h.mod.on hm fun k e => .inl (h.own k e), fun k e => by
    rcases Nat.lt_or_ge k w.heap.size with h1 | h1
    · exact h.own k ((hl k h1).1 e)
    · exact Nat.le_trans h.mod.size h1⟩
theorem At3.below {W0 w w' : World} {own : Nat → Prop} (h : At3 W0 w own) (hb : Below w.heap.size w w') : At3 W0 w' own := ⟨h.mod.onB hb, h.own⟩
theorem At3.bel {W0 w : World} {own : Nat → Prop} (h : At3 W0 w own) : Below W0.heap.size W0 w := h.mod.below (Nat.le_refl _) fun _ e => e
theorem PrB.ask {w w' : World} {P p bw ba r bb b n N : Nat} {W : List UInt64} {own own' : Nat → Prop} {late : Bool} (h : PrB w P p bw ba r bb b n W own late N)
    (hb : Bok w' b own' late (N + 2)) (hl : ∀ k, k < w.heap.size → (own' k ↔ own k)) (hm : Mod own w w') : PrB w' P p bw ba r bb b n W own' late (N + 2) :=
  ⟨h.pr.mod hm h.no, hb, fun k hk e => h.no k hk ((hl k (h.pr.lt k hk)).1 e)⟩
/-- The argument boxed, and a new Book. -/
theorem boxedMB (w : World) (fr : Bool) (n : Int) (xv : Value) (late : Bool) : ∃ w1 w0 A b, w1 = w.alloc (.cells #[.bool fr, .int .i64 n, xv] 24) ∧ w0 = w1.alloc (.cells #[.slice none 0 0, .bool late, .slice none 0 0, .slice none 0 0] 31) ∧ A = w.heap.size ∧ b = w1.heap.size ∧ w.heap.size < b ∧
    Rw w1 A 24 [.bool fr, .int .i64 n, xv] ∧ Rw w0 b 31 [.slice none 0 0, .bool late, .slice none 0 0, .slice none 0 0] ∧ Below w.heap.size w w0 :=
  ⟨_, _, _, _, rfl, rfl, rfl, rfl, by simp, heap_new _ _ _ rfl, heap_new _ _ _ rfl, (below_alloc1 _ _).alloc (by simp) _⟩
theorem made_calls {w : World} {b N : Nat} {own : Nat → Prop} {late : Bool} (hK : KeepC late) (hN : N + 2 ≤ 5864062014805) (hb : Bok w b own late N) {fr : Bool} {n : Int} (hn : (Lit.int .i64 n).wf = true) {xv : Value} {V : List UInt64} (hx : RU w xv V) (hV : V.length + 80 ≤ 17592186044416) :
    Calls Tryd.prog 17 #[.agg #[.bool fr, .int .i64 n, xv], .pointer (some ⟨b, 0, none⟩)] w fun e w' => ∃ P own', e = .returned (.tuple #[.pointer (some ⟨P, 0, none⟩), .bool true]) ∧ MadeP w w' P b own' ∧ Bok w' b own' late (N + 2) ∧ (∀ k, k < w.heap.size → (own' k ↔ own k)) ∧ Mod own w w' := by
  cases fr
  · exact made_new hb hn hx
  · exact made_from hK hN hb hn hx hV
set_option maxHeartbeats 8000000 in
theorem news_calls {w : World} {fr : Bool} {n : Int} (hn : (Lit.int .i64 n).wf = true) {xv : Value} {V : List UInt64} (hx : RU w xv V) (hV : V.length ≤ 17592186043904) :
    Pur Tryd.prog 3 #[.agg #[.bool fr, .int .i64 n, xv]] w (.bool true) := by
  unfold Pur
  obtain ⟨w1, w0, A, b, hw1, hw0, hA, hb, hAb, hra, hrb, hb0⟩ := boxedMB w fr n xv false
  have hx0 := hx.below hb0
  have hmade := made_calls (fr := fr) keepC_now (by omega) (Bok.new hrb) hn hx0 (by omega)
  have hat : At3 w w0 (fun k => k = b) := ⟨Mod.of_below hb0, fun k e => by omega⟩
  have HB0 := Lib.hid hb0
  have HMD := Lib.hid hmade
  have HAT := Lib.hid hat
  obtain ⟨q, c, hxe⟩ := hx.form
  generalize V.length = L at hxe
  subst hxe
  have ca0 := hra.cell (i := 0) rfl
  have ca1 := hra.cell (i := 1) rfl
  have ca2 := hra.cell (i := 2) rfl
  clear hx hV hx0 hmade hat hn hrb hb0 hAb hra
  go_enter Tryd.func3, Tryd.ntmps3
  go_upto_region 1 with fail
  rw [← hw1, ← hA]
  clear hw1 hA
  go_upto_region 2 with (first
    | (go_at_call 17
       rw [← hw0, ← hb]
       refine HMD.out.mono ?_
       rintro e w2 ⟨P, own2, rfl, hmd, hbk, hlow, hm⟩
       have HMP := Lib.hid hmd
       have HBK := Lib.hid hbk
       have HAT2 := Lib.hid (HAT.out.ask hlow hm)
       clear hmd hbk hlow hm hw0 hb ca0 ca1 ca2)
    | fail)
  obtain ⟨hP1, hP2, hP3⟩ := HMP.out
  have hpb : own2 b := HBK.out.at_
  rcases hP3 with hnil | ⟨p, bw, ba, r, bb, m, W, hpr, hno⟩
  · have cp0 := hnil.cell (i := 0) rfl
    clear hP1 hP2 hpb hnil HMD
    go_wp2_with fail
    go_ret
    exact ⟨rfl, HAT2.out.bel⟩
  · have hB2 : PrB w2 P p bw ba r bb b m W own2 false 2 := ⟨hpr, HBK.out, fun k hk => (hno k hk).2⟩
    have cp0 := hpr.hP.cell (i := 0) rfl
    have H2 := Lib.hid hB2
    clear hP1 hP2 hpb hpr hno hB2 HMD
    go_upto_region 7 with (first
      | (go_at_call 18
         refine (ask_len H2.out _ _ _ _ _ _ _).mono ?_
         rintro e w3 ⟨rfl, own3, hbk, hlow, hm⟩
         have H3 := Lib.hid (H2.out.ask hbk hlow hm)
         have HAT3 := Lib.hid (HAT2.out.ask hlow hm)
         clear hbk hlow hm)
      | fail)
    go_upto_region 8 with (first
      | (go_at_call 18
         refine (ask_count H3.out _ _ _ _ _ _ _).mono ?_
         rintro e w4 ⟨rfl, own4, hbk, hlow, hm⟩
         have H4 := Lib.hid (H3.out.ask hbk hlow hm)
         have HAT4 := Lib.hid (HAT3.out.ask hlow hm)
         clear hbk hlow hm)
      | fail)
    go_upto_region 9 with (first
      | (go_at_call 18
         refine (ask_words keepC_now (by omega) H4.out _ _ _ _ _ _ _).mono ?_
         rintro e w5 ⟨rfl, own5, hbk, hlow, hm⟩
         have H5 := Lib.hid (H4.out.ask hbk hlow hm)
         have HAT5 := Lib.hid (HAT4.out.ask hlow hm)
         clear hbk hlow hm)
      | fail)
    go_upto_region 10 with (first
      | (go_at_call 18
         refine (ask_summary keepC_now (by omega) H5.out _ _ _ _ _ _ _).mono ?_
         rintro e w6 ⟨rfl, own6, hbk, hlow, hm⟩
         have H6 := Lib.hid (H5.out.ask hbk hlow hm)
         have HAT6 := Lib.hid (HAT5.out.ask hlow hm)
         clear hbk hlow hm)
      | fail)
    trace_state
    go_wp2_with fail
    go_ret
    exact ⟨rfl, HAT6.out.bel⟩
end Go.Proofs.YtckbckdaffdjmaaDoor
