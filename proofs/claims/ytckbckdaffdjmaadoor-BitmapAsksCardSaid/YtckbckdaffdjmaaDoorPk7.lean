/- Walks and plain laws of the packets and frames, joined from: NwM, PaA, TlA, TlC, TlD, TlB, TlE, PaB, PlU, TlM, TlN, LwOp. -/
import Derived.Test.YtckbckdaffdjmaaDoorPk6
/- The statement BitmapNews: the walk. -/
namespace Go.Proofs.YtckbckdaffdjmaaDoor
open Go.RowKit
set_option maxRecDepth 100000
set_option linter.unusedVariables false
set_option linter.unusedSimpArgs false

/-- Where a law stands with a Book: all that was there at the start is as it was. -/
structure At3 (W0 w : World) (own : Nat → Prop) : Prop where
  mod : Mod (fun k => W0.heap.size ≤ k) W0 w
  own : ∀ k, own k → W0.heap.size ≤ k
theorem At3.ask {W0 w w' : World} {own own' : Nat → Prop} (h : At3 W0 w own) (hl : ∀ k, k < w.heap.size → (own' k ↔ own k)) (hm : Mod own w w') : At3 W0 w' own' :=
  ⟨h.mod.on hm fun k e => .inl (h.own k e), fun k e => by
    rcases Nat.lt_or_ge k w.heap.size with h1 | h1
    · exact h.own k ((hl k h1).1 e)
    · exact Nat.le_trans h.mod.size h1⟩
theorem At3.below {W0 w w' : World} {own : Nat → Prop} (h : At3 W0 w own) (hb : Below w.heap.size w w') : At3 W0 w' own := ⟨h.mod.onB hb, h.own⟩
theorem At3.bel {W0 w : World} {own : Nat → Prop} (h : At3 W0 w own) : Below W0.heap.size W0 w := h.mod.below (Nat.le_refl _) fun _ e => e
theorem PrB.ask {w w' : World} {P p bw ba r bb b n N : Nat} {W : List UInt64} {own own' : Nat → Prop} {late : Bool} (h : PrB w P p bw ba r bb b n W own late N)
    (hb : Bok w' b own' late (N + 2)) (hl : ∀ k, k < w.heap.size → (own' k ↔ own k)) (hm : Mod own w w') : PrB w' P p bw ba r bb b n W own' late (N + 2) :=
  ⟨h.pr.mod hm h.no, hb, fun k hk e => h.no k hk ((hl k (h.pr.lt k hk)).1 e)⟩
/-- The argument boxed, and a new Book. -/
theorem boxedMB (w : World) (fr : Bool) (n : Int) (xv : Value) (late : Bool) : ∃ w1 w0 A b, w1 = w.alloc (.cells #[.bool fr, .int .i64 n, xv] 24) ∧ w0 = w1.alloc (.cells #[.slice none 0 0, .bool late, .slice none 0 0, .slice none 0 0] 31) ∧ A = w.heap.size ∧ b = w1.heap.size ∧ w.heap.size < b ∧
    Rw w1 A 24 [.bool fr, .int .i64 n, xv] ∧ Rw w0 b 31 [.slice none 0 0, .bool late, .slice none 0 0, .slice none 0 0] ∧ Below w.heap.size w w0 :=
  ⟨_, _, _, _, rfl, rfl, rfl, rfl, by simp, heap_new _ _ _ rfl, heap_new _ _ _ rfl, (below_alloc1 _ _).alloc (by simp) _⟩
theorem made_calls {w : World} {b N : Nat} {own : Nat → Prop} {late : Bool} (hK : KeepC late) (hN : N + 2 ≤ 5864062014805) (hb : Bok w b own late N) {fr : Bool} {n : Int} (hn : (Lit.int .i64 n).wf = true) {xv : Value} {V : List UInt64} (hx : RU w xv V) (hV : V.length + 80 ≤ 17592186044416) :
    Calls Tryd.prog 17 #[.agg #[.bool fr, .int .i64 n, xv], .pointer (some ⟨b, 0, none⟩)] w fun e w' => ∃ P own', e = .returned (.tuple #[.pointer (some ⟨P, 0, none⟩), .bool true]) ∧ MadeP w w' P b own' ∧ Bok w' b own' late (N + 2) ∧ (∀ k, k < w.heap.size → (own' k ↔ own k)) ∧ Mod own w w' := by
  cases fr
  · exact made_new hb hn hx
  · exact made_from hK hN hb hn hx hV
set_option maxHeartbeats 8000000 in
theorem news_calls {w : World} {fr : Bool} {n : Int} (hn : (Lit.int .i64 n).wf = true) {xv : Value} {V : List UInt64} (hx : RU w xv V) (hV : V.length ≤ 17592186043904) :
    Pur Tryd.prog 3 #[.agg #[.bool fr, .int .i64 n, xv]] w (.bool true) := by
  unfold Pur
  obtain ⟨w1, w0, A, b, hw1, hw0, hA, hb, hAb, hra, hrb, hb0⟩ := boxedMB w fr n xv false
  have hx0 := hx.below hb0
  have hmade := made_calls (fr := fr) keepC_now (by omega) (Bok.new hrb) hn hx0 (by omega)
  have hat : At3 w w0 (fun k => k = b) := ⟨Mod.of_below hb0, fun k e => by omega⟩
  have HB0 := Lib.hid hb0
  have HMD := Lib.hid hmade
  have HAT := Lib.hid hat
  obtain ⟨q, c, hxe⟩ := hx.form
  generalize V.length = L at hxe
  subst hxe
  have ca0 := hra.cell (i := 0) rfl
  have ca1 := hra.cell (i := 1) rfl
  have ca2 := hra.cell (i := 2) rfl
  clear hx hV hx0 hmade hat hn hrb hb0 hAb hra
  go_enter Tryd.func3, Tryd.ntmps3
  go_upto_region 1 with fail
  rw [← hw1, ← hA]
  clear hw1 hA
  go_upto_region 2 with (first
    | (go_at_call 17
       rw [← hw0, ← hb]
       refine HMD.out.mono ?_
       rintro e w2 ⟨P, own2, rfl, hmd, hbk, hlow, hm⟩
       have HMP := Lib.hid hmd
       have HBK := Lib.hid hbk
       have HAT2 := Lib.hid (HAT.out.ask hlow hm)
       clear hmd hbk hlow hm hw0 hb ca0 ca1 ca2)
    | fail)
  obtain ⟨hP1, hP2, hP3⟩ := HMP.out
  have hpb : own2 b := HBK.out.at_
  rcases hP3 with hnil | ⟨p, bw, ba, r, bb, m, W, hpr, hno⟩
  · have cp0 := hnil.cell (i := 0) rfl
    clear hP1 hP2 hpb hnil HMD
    go_wp2_with fail
    go_ret
    exact ⟨rfl, HAT2.out.bel⟩
  · have hB2 : PrB w2 P p bw ba r bb b m W own2 false 2 := ⟨hpr, HBK.out, fun k hk => (hno k hk).2⟩
    have cp0 := hpr.hP.cell (i := 0) rfl
    have H2 := Lib.hid hB2
    clear hP1 hP2 hpb hpr hno hB2 HMD
    go_upto_region 7 with (first
      | (go_at_call 18
         refine (ask_len H2.out _ _ _ _ _ _ _).mono ?_
         rintro e w3 ⟨rfl, own3, hbk, hlow, hm⟩
         have H3 := Lib.hid (H2.out.ask hbk hlow hm)
         have HAT3 := Lib.hid (HAT2.out.ask hlow hm)
         clear hbk hlow hm)
      | fail)
    go_upto_region 8 with (first
      | (go_at_call 18
         refine (ask_count H3.out _ _ _ _ _ _ _).mono ?_
         rintro e w4 ⟨rfl, own4, hbk, hlow, hm⟩
         have H4 := Lib.hid (H3.out.ask hbk hlow hm)
         have HAT4 := Lib.hid (HAT3.out.ask hlow hm)
         clear hbk hlow hm)
      | fail)
    go_upto_region 9 with (first
      | (go_at_call 18
         refine (ask_words keepC_now (by omega) H4.out _ _ _ _ _ _ _).mono ?_
         rintro e w5 ⟨rfl, own5, hbk, hlow, hm⟩
         have H5 := Lib.hid (H4.out.ask hbk hlow hm)
         have HAT5 := Lib.hid (HAT4.out.ask hlow hm)
         clear hbk hlow hm)
      | fail)
    go_upto_region 10 with (first
      | (go_at_call 18
         refine (ask_summary keepC_now (by omega) H5.out _ _ _ _ _ _ _).mono ?_
         rintro e w6 ⟨rfl, own6, hbk, hlow, hm⟩
         have H6 := Lib.hid (H5.out.ask hbk hlow hm)
         have HAT6 := Lib.hid (HAT5.out.ask hlow hm)
         clear hbk hlow hm)
      | fail)
    trace_state
    go_wp2_with fail
    go_ret
    exact ⟨rfl, HAT6.out.bel⟩
end Go.Proofs.YtckbckdaffdjmaaDoor

/- The two pairs of a script, and their Book. -/
namespace Go.Proofs.YtckbckdaffdjmaaDoor
open Go.RowKit
set_option maxRecDepth 100000
set_option linter.unusedVariables false
set_option linter.unusedSimpArgs false

theorem keepC_any (late : Bool) : KeepC late := by
  cases late
  · exact keepC_now
  · exact keepC_late
theorem Bok.late_cell {w : World} {b N : Nat} {own : Nat → Prop} {late : Bool} (h : Bok w b own late N) : w.cell? ⟨b, 1, none⟩ = some (.bool late) := by
  obtain ⟨ow, N0, N2, ⟨v0, v2, v3, K0, K2, K3, Ws, hb, _⟩, _⟩ := h
  exact hb.blk.cell (i := 1) rfl
/-- The pair at P, its blocks A. -/
def PaR (w : World) (P b : Nat) (A : Nat → Prop) : Prop :=
  (Rw w P 35 [.pointer none, .pointer none, .pointer (some ⟨b, 0, none⟩)] ∧ ∀ k, A k ↔ k = P) ∨ ∃ p bw ba r bb n W, Pr w P p bw ba r bb b n W ∧ ∀ k, A k ↔ Pr.At P p bw ba r bb k
theorem PaR.mod {F : Nat → Prop} {w w' : World} {P b : Nat} {A : Nat → Prop} (h : PaR w P b A) (hm : Mod F w w') (hF : ∀ k, A k → ¬ F k) : PaR w' P b A := by
  rcases h with ⟨h, ha⟩ | ⟨p, bw, ba, r, bb, n, W, h, ha⟩
  · exact .inl ⟨h.mod hm (hF _ ((ha _).2 rfl)), ha⟩
  · exact .inr ⟨p, bw, ba, r, bb, n, W, h.mod hm fun k hk => hF k ((ha k).2 hk), ha⟩
theorem PaR.lt {w : World} {P b : Nat} {A : Nat → Prop} (h : PaR w P b A) : ∀ k, A k → k < w.heap.size := by
  rcases h with ⟨h, ha⟩ | ⟨p, bw, ba, r, bb, n, W, h, ha⟩
  · intro k hk; rw [ha] at hk; subst hk; exact heap_lt h
  · intro k hk; exact h.lt k ((ha k).1 hk)
/-- Where a script stands: the pairs at P1 and P2, the Book at b; from w0 on. -/
structure PInv (w0 w : World) (P1 P2 b : Nat) (late : Bool) (N : Nat) (own A1 A2 : Nat → Prop) : Prop where
  bk : Bok w b own late N
  p1 : PaR w P1 b A1
  p2 : PaR w P2 b A2
  hi : ∀ k, own k ∨ A1 k ∨ A2 k → w0.heap.size ≤ k
  n1 : ∀ k, A1 k → ¬ own k
  n2 : ∀ k, A2 k → ¬ own k
  n12 : ∀ k, A1 k → ¬ A2 k
  bel : Below w0.heap.size w0 w
section
variable {w0 w w' : World} {P1 P2 b N : Nat} {late : Bool} {own A1 A2 : Nat → Prop}
theorem PInv.swap (h : PInv w0 w P1 P2 b late N own A1 A2) : PInv w0 w P2 P1 b late N own A2 A1 :=
  ⟨h.bk, h.p2, h.p1, fun k e => h.hi k (e.elim .inl fun e => .inr e.symm), h.n2, h.n1, fun k a c => h.n12 k c a, h.bel⟩
theorem PInv.below (h : PInv w0 w P1 P2 b late N own A1 A2) (hb : Below w.heap.size w w') : PInv w0 w' P1 P2 b late N own A1 A2 :=
  ⟨h.bk.below hb, h.p1.mod (F := fun _ => False) (Mod.of_below hb) (fun _ _ => id), h.p2.mod (F := fun _ => False) (Mod.of_below hb) (fun _ _ => id), h.hi, h.n1, h.n2, h.n12, h.bel.trans (hb.mono h.bel.size)⟩
theorem PInv.more {M : Nat} (h : PInv w0 w P1 P2 b late N own A1 A2) (hM : N ≤ M) : PInv w0 w P1 P2 b late M own A1 A2 := ⟨h.bk.more hM, h.p1, h.p2, h.hi, h.n1, h.n2, h.n12, h.bel⟩
theorem PInv.prb {p bw ba r bb n : Nat} {W : List UInt64} (h : PInv w0 w P1 P2 b late N own A1 A2) (hp : Pr w P1 p bw ba r bb b n W) (ha : ∀ k, A1 k ↔ Pr.At P1 p bw ba r bb k) : PrB w P1 p bw ba r bb b n W own late N :=
  ⟨hp, h.bk, fun k hk => h.n1 k ((ha k).2 hk)⟩
/-- Behind a change of the first pair. -/
theorem PInv.chg {p bw ba r bb n : Nat} {e : Ending} (h : PInv w0 w P1 P2 b late N own A1 A2) (ha : ∀ k, A1 k ↔ Pr.At P1 p bw ba r bb k) (hc : ChgP w P1 p bw ba r bb b n N own late e w') :
    ∃ own', PInv w0 w' P1 P2 b late (N + 2) own' A1 A2 ∧ Mod (fun k => own k ∨ A1 k) w w' ∧ ∃ W', Pr w' P1 p bw ba r bb b n W' := by
  obtain ⟨-, own', W', hpb, hlow, hm⟩ := hc
  have hm' : Mod (fun k => own k ∨ A1 k) w w' := hm.mono fun k _ e => e.elim .inl fun e => .inr ((ha k).2 e)
  refine ⟨own', ⟨hpb.bk, .inr ⟨p, bw, ba, r, bb, n, W', hpb.pr, ha⟩, h.p2.mod hm' (fun k a e => e.elim (h.n2 k a) fun e => h.n12 k e a), fun k e => ?_, fun k a => hpb.no k ((ha k).1 a), fun k a e => h.n2 k a ((hlow k (h.p2.lt k a)).1 e), h.n12, h.bel.trans (hm'.below h.bel.size fun k e => h.hi k (e.elim .inl fun e => .inr (.inl e)))⟩, hm', W', hpb.pr⟩
  rcases e with e | e | e
  · rcases Nat.lt_or_ge k w.heap.size with hk | hk
    · exact h.hi k (.inl ((hlow k hk).1 e))
    · exact Nat.le_trans h.bel.size hk
  · exact h.hi k (.inr (.inl e))
  · exact h.hi k (.inr (.inr e))
end
/-- What made leaves, as a pair. -/
theorem MadeP.par {w w' : World} {P b : Nat} {own' : Nat → Prop} (h : MadeP w w' P b own') : ∃ A, PaR w' P b A ∧ ∀ k, A k → w.heap.size ≤ k ∧ ¬ own' k := by
  obtain ⟨h1, h2, h | ⟨p, bw, ba, r, bb, n, W, h3, h4⟩⟩ := h
  · exact ⟨fun k => k = P, .inl ⟨h, fun _ => Iff.rfl⟩, fun k e => by rw [e]; exact ⟨h1, h2⟩⟩
  · exact ⟨_, .inr ⟨p, bw, ba, r, bb, n, W, h3, fun _ => Iff.rfl⟩, h4⟩
/-- Both pairs made. -/
theorem PInv.start {w0 w1 w2 w3 : World} {P1 P2 b N : Nat} {late : Bool} {own1 own2 own3 : Nat → Prop} (hb1 : Below w0.heap.size w0 w1) (ho : ∀ k, own1 k → w0.heap.size ≤ k)
    (m1 : MadeP w1 w2 P1 b own2) (l1 : ∀ k, k < w1.heap.size → (own2 k ↔ own1 k)) (d1 : Mod own1 w1 w2) (k1 : Bok w2 b own2 late N)
    (m2 : MadeP w2 w3 P2 b own3) (l2 : ∀ k, k < w2.heap.size → (own3 k ↔ own2 k)) (d2 : Mod own2 w2 w3) (k3 : Bok w3 b own3 late (N + 2)) :
    ∃ A1 A2, PInv w0 w3 P1 P2 b late (N + 2) own3 A1 A2 := by
  obtain ⟨A1, p1, h1⟩ := m1.par
  obtain ⟨A2, p2, h2⟩ := m2.par
  have ho2 : ∀ k, own2 k → w0.heap.size ≤ k := fun k e => by
    rcases Nat.lt_or_ge k w1.heap.size with hk | hk
    · exact ho k ((l1 k hk).1 e)
    · exact Nat.le_trans hb1.size hk
  have ho3 : ∀ k, own3 k → w0.heap.size ≤ k := fun k e => by
    rcases Nat.lt_or_ge k w2.heap.size with hk | hk
    · exact ho2 k ((l2 k hk).1 e)
    · exact Nat.le_trans (Nat.le_trans hb1.size d1.size) hk
  refine ⟨A1, A2, k3, p1.mod d2 (fun k a => (h1 k a).2), p2, ?_, fun k a e => (h1 k a).2 ((l2 k (p1.lt k a)).1 e), fun k a => (h2 k a).2, fun k a c => by have := p1.lt k a; have := (h2 k c).1; omega, (hb1.trans (d1.below hb1.size ho)).trans (d2.below (Nat.le_trans hb1.size d1.size) ho2)⟩
  rintro k (e | e | e)
  · exact ho3 k e
  · exact Nat.le_trans hb1.size (h1 k e).1
  · exact Nat.le_trans (Nat.le_trans hb1.size d1.size) (h2 k e).1
end Go.Proofs.YtckbckdaffdjmaaDoor

/- The law's own functions: num, ones, listed. -/
namespace Go.Proofs.YtckbckdaffdjmaaDoor
open Go.RowKit
set_option maxRecDepth 100000
set_option linter.unusedVariables false
set_option linter.unusedSimpArgs false

theorem num_calls {w : World} (e : Int) : Pur Tryd.prog 33 #[.int .i64 e] w (.int .i64 e) := by
  unfold Pur
  go_enter Tryd.func33, Tryd.ntmps33
  go_wp2_with fail
  go_ret
  exact ⟨rfl, Below.refl _ _⟩
namespace Bm
theorem drop_low {x : Nat} (h0 : x ≠ 0) (hx : x < 18446744073709551616) : pop 64 (x &&& (x - 1)) + 1 = pop 64 x ∧ x &&& (x - 1) < 18446744073709551616 := by
  refine ⟨?_, Nat.lt_of_le_of_lt Nat.and_le_left hx⟩
  obtain ⟨m, hm, hk⟩ := Lib.ctzFrom_spec 64 x (by omega) hx
  generalize Lib.ctzFrom 64 x = k at *
  have hp := Nat.two_pow_pos k
  have h1 : x = 2 ^ k * (2 * m + 1) + 0 := by omega
  have h2 : x - 1 = 2 ^ k * (2 * m) + (2 ^ k - 1) := by rw [hm, Nat.mul_add]; omega
  have b1 : ∀ t, x.testBit t = if t < k then false else (2 * m + 1).testBit (t - k) := fun t => by rw [h1, Nat.testBit_two_pow_mul_add _ hp]; simp
  have b2 : ∀ t, (x - 1).testBit t = if t < k then (2 ^ k - 1).testBit t else (2 * m).testBit (t - k) := fun t => by rw [h2, Nat.testBit_two_pow_mul_add _ (by omega)]
  have b3 : ∀ t, t ≠ k → (x &&& (x - 1)).testBit t = x.testBit t := fun t ht => by
    rw [Nat.testBit_and, b1, b2]
    by_cases e : t < k
    · simp [e]
    · obtain ⟨d, hd⟩ : ∃ d, t - k = d + 1 := ⟨t - k - 1, by omega⟩
      rw [if_neg e, if_neg e, hd, Nat.testBit_succ, Nat.testBit_succ, show (2 * m + 1) / 2 = m by omega, show 2 * m / 2 = m by omega, Bool.and_self]
  have b4 : (x &&& (x - 1)).testBit k = false := by rw [Nat.testBit_and, b2, if_neg (by omega), Nat.sub_self, Nat.testBit_zero]; simp
  have b5 : x.testBit k = true := by rw [b1, if_neg (by omega), Nat.sub_self, Nat.testBit_zero]; simp
  rw [pop_cnt, pop_cnt, cnt_split _ (a := k) (c := 1) (m := 64) (by omega), cnt_split x.testBit (a := k) (c := 1) (m := 64) (by omega)]
  rw [cnt_congr (f := (x &&& (x - 1)).testBit) (g := x.testBit) (a := 0) (b := 0) k (fun t ht => b3 _ (by omega)), cnt_congr (f := (x &&& (x - 1)).testBit) (g := x.testBit) (a := k + 1) (b := k + 1) _ (fun t ht => b3 _ (by omega))]
  have c1 : cnt (x &&& (x - 1)).testBit k 1 = 0 := by rw [cnt, cnt, Nat.add_zero, b4]; rfl
  have c2 : cnt x.testBit k 1 = 1 := by rw [cnt, cnt, Nat.add_zero, b5]; rfl
  rw [c1, c2]; omega
end Bm
theorem pop_zero : Bm.pop 64 0 = 0 := by rw [Bm.pop_cnt]; exact Bm.cnt_none 64 fun t _ => Nat.zero_testBit _
/-- How many ones there are, hidden from what would reckon it. -/
def popU (x : Nat) : Nat := Bm.pop 64 x
theorem popU_le (x : Nat) : popU x ≤ 64 := Bm.pop_le 64 x
theorem popU_zero : popU 0 = 0 := pop_zero
theorem popU_drop {x : Nat} (h0 : x ≠ 0) (hx : x < 18446744073709551616) : popU (x &&& (x - 1)) + 1 = popU x ∧ x &&& (x - 1) < 18446744073709551616 := Bm.drop_low h0 hx
set_option maxHeartbeats 4000000 in
theorem ones_calls {w : World} {x : Nat} (hx : x < 18446744073709551616) : Pur Tryd.prog 70 #[.int .u64 x] w (.int .i64 (popU x : Nat)) := by
  unfold Pur
  have hle := popU_le x
  obtain ⟨Z, hZ⟩ : ∃ Z, Z = popU x := ⟨_, rfl⟩
  rw [← hZ] at hle ⊢
  have HZ := Lib.hid hZ
  have HX := Lib.hid hx
  clear hZ hx
  go_enter Tryd.func70, Tryd.ntmps70
  go_wp2_with fail
  refine wp_loop_ghost (fun q a w' => ∃ y c : Nat, q = popU y ∧ Is (fun U => ⟨#[.int .u64 (y : Int), U 1, U 2, .int .i64 (c : Int), U 4, U 5, U 6, U 7, U 8, U 9, U 10, U 11, U 12], []⟩) a ∧ Below w.heap.size w w' ∧ c + q = Z ∧ y < 18446744073709551616) Z ⟨x, 0, HZ.out, isU (fun U => ⟨#[.int .u64 (x : Int), U 1, U 2, .int .i64 0, U 4, U 5, U 6, U 7, U 8, U 9, U 10, U 11, U 12], []⟩) rfl, Below.refl _ _, Nat.zero_add _, HX.out⟩ ?_
  rintro q a w' ⟨y, c, hq, hU, hb, hs, hy⟩
  obtain ⟨U, rfl⟩ := hU.out
  have HB := Lib.hid hb
  have HS := Lib.hid hs
  have HQ := Lib.hid hq
  have hc9 : (c : Int) ≤ 64 := by omega
  have hc0 : (0 : Int) ≤ (c : Int) := Int.natCast_nonneg c
  clear hq
  by_cases h0 : y = 0
  · have hy0 : ((y : Int) != 0) = false := by rw [h0]; rfl
    have H0 : Hid (c = Z) := Lib.hid (by have := HQ.out; rw [h0, popU_zero] at this; omega)
    clear hU hb hs h0 hy
    go_wp2_with fail
    go_ret
    exact ⟨congrArg (fun z : Nat => Ending.returned (.int .i64 (z : Int))) H0.out, HB.out⟩
  · have hy0 : ((y : Int) != 0) = true := bne_iff_ne.2 fun e => h0 (Int.ofNat_inj.1 e)
    have hd := popU_drop h0 hy
    have hw : IntKind.u64.wrap ((y : Int) - 1) = ((y - 1 : Nat) : Int) := by rw [show (y : Int) - 1 = ((y - 1 : Nat) : Int) by omega]; exact wrap_nat (by omega)
    have ha := u64_and_nat y (y - 1) hy (by omega)
    rw [← HQ.out] at hd
    have HD := Lib.hid hd
    generalize y &&& (y - 1) = v at *
    obtain ⟨u, hu⟩ : ∃ u, u = y - 1 := ⟨_, rfl⟩
    rw [← hu] at hw ha
    clear hU hb hs h0 hy hd hu hle
    go_wp2_with fail
    have h1 := HD.out.1
    have h2 := HS.out
    exact ⟨popU v, by omega, v, c + 1, rfl, isU (fun U => ⟨#[.int .u64 (v : Int), U 1, U 2, .int .i64 (c + 1 : Nat), U 4, U 5, U 6, U 7, U 8, U 9, U 10, U 11, U 12], []⟩) rfl, HB.out, by omega, HD.out.2⟩
end Go.Proofs.YtckbckdaffdjmaaDoor

/- The law's own function levels. -/
namespace Go.Proofs.YtckbckdaffdjmaaDoor
open Go.RowKit
set_option maxRecDepth 100000
set_option linter.unusedVariables false
set_option linter.unusedSimpArgs false

/-- How many ones the first k words have. -/
def sumU (W : List UInt64) (k : Nat) : Nat := Bm.ones' (W.take k)
theorem sumU_zero (W : List UInt64) : sumU W 0 = 0 := rfl
theorem sumU_all (W : List UInt64) : sumU W W.length = Bm.ones' W := by unfold sumU; rw [List.take_length]
theorem ones_snoc : ∀ (W : List UInt64) (x : UInt64), Bm.ones' (W ++ [x]) = Bm.ones' W + popU x.toNat
  | [], x => by simp only [List.nil_append, Bm.ones']; unfold popU; omega
  | y :: r, x => by simp only [List.cons_append, Bm.ones', ones_snoc r x]; omega
theorem sumU_next {W : List UInt64} {k : Nat} {x : UInt64} (hx : W[k]? = some x) : sumU W (k + 1) = sumU W k + popU x.toNat := by
  unfold sumU
  rw [List.take_add_one, hx]
  exact ones_snoc _ _
theorem sumU_past {W : List UInt64} {k : Nat} (h : W.length ≤ k) : sumU W k = Bm.ones' W := by unfold sumU; rw [List.take_of_length_le h]
theorem sumU_le (W : List UInt64) (k : Nat) : sumU W k ≤ 64 * k := by
  unfold sumU
  refine Nat.le_trans (Bm.ones_le _) ?_
  have := List.length_take_le k W
  omega
set_option maxHeartbeats 8000000 in
theorem levels_calls {w : World} {p bw ba n : Nat} {W : List UInt64} (h : BM w p bw ba n W) : Pur Tryd.prog 30 #[.pointer (some ⟨p, 0, none⟩), .int .i64 n] w (.bool true) := by
  unfold Pur
  have hmx := h.ok.max
  have hpos := h.ok.pos
  have hlen := h.ok.len
  have hul := Bm.upper_length W
  rw [hlen] at hul
  obtain ⟨R, hR⟩ : ∃ R, R = Bm.room n := ⟨_, rfl⟩
  obtain ⟨R2, hR2⟩ : ∃ R2, R2 = Bm.room R := ⟨_, rfl⟩
  rw [← hR] at hlen hul
  rw [← hR2] at hul
  have HM := Lib.hid h
  have HLEN := Lib.hid hlen
  have HUL := Lib.hid hul
  have HRR : Hid (R ≤ 64 * R2 ∧ R ≤ 1024 ∧ R2 ≤ 16) := Lib.hid (by rw [hR2, hR]; unfold Bm.room; omega)
  have hq1 : ((n : Int) + 63) / 64 = (R : Int) := by rw [hR]; unfold Bm.room; omega
  have hq2 : ((R : Int) + 63) / 64 = (R2 : Int) := by rw [hR2]; unfold Bm.room; omega
  have hr9 : (R : Int) ≤ 1024 := by have := HRR.out; omega
  have hr92 : (R2 : Int) ≤ 16 := by have := HRR.out; omega
  have hn9 : (n : Int) ≤ 65536 := by omega
  have hn0 : (0 : Int) ≤ (n : Int) := by omega
  clear h hlen hul hR hR2 hmx hpos
  go_enter Tryd.func30, Tryd.ntmps30
  go_upto_region 5 with (first
    | (go_at_call 32; refine (words_calls HM.out).mono ?_; rintro e w1 ⟨v1, rfl, hn1⟩
       have hb1 := hn1.bel
       have HN1 := Lib.hid hn1
       have HB1 := Lib.hid hb1
       obtain ⟨g1, hv1, -⟩ := hn1
       rw [HLEN.out] at hv1
       clear hb1)
    | (go_at_call 64; refine (summary_calls (HM.out.below HB1.out)).mono ?_; rintro e w2 ⟨v2, rfl, hn2⟩
       have hb2 := hn2.bel
       have HN2 := Lib.hid hn2
       have HB2 := Lib.hid hb2
       obtain ⟨g2, hv2, -⟩ := hn2
       rw [HUL.out] at hv2
       clear hb2
       subst hv1 hv2)
    | fail)
  clear hq1 hq2 hn9 hn0
  have hr1 : Rw w2 g1 58 (W.map uv) := by
    obtain ⟨g, e, h4, _⟩ := HN1.out
    simp only [Value.slice.injEq, Option.some.injEq, Addr.mk.injEq, and_true] at e
    rw [e.1]; exact h4.below HB2.out
  have hr2 : Rw w2 g2 58 ((Bm.upper W).map uv) := by
    obtain ⟨g, e, h4, _⟩ := HN2.out
    simp only [Value.slice.injEq, Option.some.injEq, Addr.mk.injEq, and_true] at e
    rw [e.1]; exact h4
  have l1 := heap_lt hr1
  have l2 := heap_lt hr2
  have HR1 := Lib.hid hr1
  have HR2 := Lib.hid hr2
  clear hr1 hr2
  go_wp2_with fail
  obtain ⟨S, hS⟩ : ∃ S, S = 64 * R2 := ⟨_, rfl⟩
  have hR64 : (64 : Int) * (R2 : Int) = (S : Int) := by omega
  have HSS := Lib.hid hS
  clear hS
  refine wp_loop_count (fun k a w' => ∃ z : Nat, Is (fun U => ⟨#[.pointer (some ⟨p, 0, none⟩), .int .i64 n, U 2, U 3, U 4, .slice (some ⟨g1, 0, none⟩) R R, .slice (some ⟨g2, 0, none⟩) R2 R2, .int .i64 (z : Int), .int .i64 (k : Int), U 9, U 10, U 11, U 12, U 13, U 14, U 15, U 16, U 17, U 18, U 19, U 20, U 21, U 22, U 23, U 24, U 25, U 26, U 27, U 28, U 29, U 30, U 31, U 32, U 33, U 34, U 35, U 36, U 37, U 38, U 39, U 40, U 41, U 42, U 43, U 44, U 45, U 46, U 47, U 48, U 49, U 50, U 51, U 52, U 53, U 54, U 55, U 56, U 57, U 58, U 59, U 60, U 61, U 62, U 63, U 64, U 65, U 66, U 67, U 68, U 69, U 70, U 71, U 72, U 73, U 74], []⟩) a ∧ Below w2.heap.size w2 w' ∧ z = sumU W k) S ⟨0, isU (fun U => ⟨#[.pointer (some ⟨p, 0, none⟩), .int .i64 n, U 2, U 3, U 4, .slice (some ⟨g1, 0, none⟩) R R, .slice (some ⟨g2, 0, none⟩) R2 R2, .int .i64 0, .int .i64 0, U 9, U 10, U 11, U 12, U 13, U 14, U 15, U 16, U 17, U 18, U 19, U 20, U 21, U 22, U 23, U 24, U 25, U 26, U 27, U 28, U 29, U 30, U 31, U 32, U 33, U 34, U 35, U 36, U 37, U 38, U 39, U 40, U 41, U 42, U 43, U 44, U 45, U 46, U 47, U 48, U 49, U 50, U 51, U 52, U 53, U 54, U 55, U 56, U 57, U 58, U 59, U 60, U 61, U 62, U 63, U 64, U 65, U 66, U 67, U 68, U 69, U 70, U 71, U 72, U 73, U 74], []⟩) rfl, Below.refl _ _, rfl⟩ ?_ ?_
  · rintro k a w' hk ⟨z, hU, hb, hz⟩
    obtain ⟨U, rfl⟩ := hU.out
    have hrr := HRR.out
    have hss := HSS.out
    obtain ⟨u, hu⟩ : ∃ u, (Bm.upper W)[k / 64]? = some u := ⟨_, List.getElem?_eq_getElem (by rw [HUL.out]; omega)⟩
    have hbv := shr_bit (r := k % 64) u.toNat_lt
    have hup : u.toNat.testBit (k % 64) = decide (W.getD k 0 ≠ 0) := by
      have := Bm.upper_at hu (t := 0) (by omega)
      rwa [Nat.add_zero, Nat.add_zero] at this
    rw [hup] at hbv
    have cu := ((bcell hb).1 _ _ l2).trans (HR2.out.cell (i := k / 64) (v := uv u) (by simp [hu]))
    have hzl := sumU_le W k
    rw [← hz] at hzl
    have hk0 : (0 : Int) ≤ (k : Int) := Int.natCast_nonneg k
    have hk9 : (k : Int) < (S : Int) := by omega
    have hp0 : 0 ≤ (k : Int) / 64 := by omega
    have hp1 : (k : Int) / 64 < (R2 : Int) := by omega
    have hp2 : ((k : Int) / 64).toNat = k / 64 := by omega
    have hz9 : (z : Int) ≤ 65536 := by omega
    have hz0 : (0 : Int) ≤ (z : Int) := Int.natCast_nonneg z
    have HB := Lib.hid hb
    have HZ := Lib.hid hz
    clear hup hu hk hU hb hz hzl hss
    by_cases hkR : (k : Int) < (R : Int)
    · obtain ⟨x, hx⟩ : ∃ x, W[k]? = some x := ⟨_, List.getElem?_eq_getElem (by rw [HLEN.out]; omega)⟩
      have cx := ((bcell HB.out).1 _ _ l1).trans (HR1.out.cell (i := k) (v := uv x) (by simp [hx]))
      have hxv : ((x.toNat : Int) != 0) = decide (W.getD k 0 ≠ 0) := by
        rw [List.getD_eq_getElem?_getD, hx]
        show _ = decide (x ≠ 0)
        by_cases e : x = 0
        · subst e; rfl
        · rw [decide_eq_true e]; exact bne_iff_ne.2 fun e' => e (UInt64.toNat_inj.1 (Int.ofNat_inj.1 e'))
      have HN := Lib.hid (sumU_next hx)
      have hone := ones_calls (w := w') x.toNat_lt
      have hpl := popU_le x.toNat
      obtain ⟨q, hq⟩ : ∃ q, q = popU x.toNat := ⟨_, rfl⟩
      rw [← hq] at hone hpl HN
      have hq9 : (q : Int) ≤ 64 := by omega
      have hq0 : (0 : Int) ≤ (q : Int) := Int.natCast_nonneg q
      obtain ⟨b, hbb⟩ : ∃ b, b = decide (W.getD k 0 ≠ 0) := ⟨_, rfl⟩
      rw [← hbb] at hbv hxv
      clear hx hpl hq hbb hrr
      go_wp2_with (first | (go_at_call 70; refine hone.out.mono ?_; rintro e w3 ⟨rfl, hb3⟩) | fail)
      exact ⟨z + q, isU (fun U => ⟨#[.pointer (some ⟨p, 0, none⟩), .int .i64 n, U 2, U 3, U 4, .slice (some ⟨g1, 0, none⟩) R R, .slice (some ⟨g2, 0, none⟩) R2 R2, .int .i64 (z + q : Nat), .int .i64 (k + 1 : Nat), U 9, U 10, U 11, U 12, U 13, U 14, U 15, U 16, U 17, U 18, U 19, U 20, U 21, U 22, U 23, U 24, U 25, U 26, U 27, U 28, U 29, U 30, U 31, U 32, U 33, U 34, U 35, U 36, U 37, U 38, U 39, U 40, U 41, U 42, U 43, U 44, U 45, U 46, U 47, U 48, U 49, U 50, U 51, U 52, U 53, U 54, U 55, U 56, U 57, U 58, U 59, U 60, U 61, U 62, U 63, U 64, U 65, U 66, U 67, U 68, U 69, U 70, U 71, U 72, U 73, U 74], []⟩) rfl, HB.out.trans (hb3.mono HB.out.size), by rw [HN.out, HZ.out]⟩
    · have hkR' : (R : Int) ≤ (k : Int) := by omega
      have hgd : W.getD k 0 = 0 := by rw [List.getD_eq_getElem?_getD, List.getElem?_eq_none (by rw [HLEN.out]; omega)]; rfl
      rw [hgd] at hbv
      have HN : Hid (sumU W (k + 1) = sumU W k) := Lib.hid (by rw [sumU_past (by rw [HLEN.out]; omega), sumU_past (by rw [HLEN.out]; omega)])
      have hbv' : (bits .and .u64 ((u.toNat : Int) / 2 ^ (k % 64)) 1 == 1) = false := hbv
      clear hbv hgd hkR hrr
      go_wp2_with fail
      exact ⟨z, isU (fun U => ⟨#[.pointer (some ⟨p, 0, none⟩), .int .i64 n, U 2, U 3, U 4, .slice (some ⟨g1, 0, none⟩) R R, .slice (some ⟨g2, 0, none⟩) R2 R2, .int .i64 (z : Int), .int .i64 (k + 1 : Nat), U 9, U 10, U 11, U 12, U 13, U 14, U 15, U 16, U 17, U 18, U 19, U 20, U 21, U 22, U 23, U 24, U 25, U 26, U 27, U 28, U 29, U 30, U 31, U 32, U 33, U 34, U 35, U 36, U 37, U 38, U 39, U 40, U 41, U 42, U 43, U 44, U 45, U 46, U 47, U 48, U 49, U 50, U 51, U 52, U 53, U 54, U 55, U 56, U 57, U 58, U 59, U 60, U 61, U 62, U 63, U 64, U 65, U 66, U 67, U 68, U 69, U 70, U 71, U 72, U 73, U 74], []⟩) rfl, HB.out, by rw [HN.out]; exact HZ.out⟩
  · rintro a w' ⟨z, hU, hb, hz⟩
    obtain ⟨U, rfl⟩ := hU.out
    have hze : z = Bm.ones' W := by
      have h1 := HRR.out
      have h2 := HSS.out
      rw [hz, sumU_past (by rw [HLEN.out]; omega)]
    have hcnt := count_calls (((HM.out.below HB1.out).below HB2.out).below hb)
    rw [← hze] at hcnt
    have HB := Lib.hid hb
    have HC := Lib.hid hcnt
    clear hU hb hz hze hcnt
    go_wp2_with (first | (go_at_call 40; refine HC.out.out.mono ?_; rintro e w3 ⟨rfl, hb3⟩) | fail)
    go_ret
    exact ⟨rfl, HB1.out.trans ((HB2.out.trans ((HB.out.trans (hb3.mono HB.out.size)).mono HB2.out.size)).mono HB1.out.size)⟩
end Go.Proofs.YtckbckdaffdjmaaDoor

/- The law's own function ends. -/
namespace Go.Proofs.YtckbckdaffdjmaaDoor
open Go.RowKit
set_option maxRecDepth 100000
set_option linter.unusedVariables false
set_option linter.unusedSimpArgs false

namespace Bm
/-- What a find tells, as a stretch. -/
theorem find_cases (g : Nat → Bool) {n f : Nat} (hf : f < n) : ∃ t : Nat, f ≤ t ∧ t ≤ n ∧ cnt g f (t - f) = 0 ∧ ((find g n f = -1 ∧ t = n) ∨ (find g n f = (t : Int) ∧ t < n ∧ g t = true)) := by
  rcases find_is g n f with ⟨e, h⟩ | ⟨i, e, h1, h2, h3, h4⟩
  · exact ⟨n, by omega, Nat.le_refl _, cnt_none _ fun t ht => h _ (by omega) (by omega), .inl ⟨e, rfl⟩⟩
  · exact ⟨i, h1, by omega, cnt_none _ fun t ht => h4 _ (by omega) (by omega), .inr ⟨e, h2, h3⟩⟩
theorem cnt_one (g : Nat → Bool) (a : Nat) : cnt g a 1 = if g a = true then 1 else 0 := by rw [cnt, cnt, Nat.add_zero, Nat.zero_add]
end Bm
set_option maxHeartbeats 16000000 in
theorem ends_calls {w : World} {p bw ba n : Nat} {W : List UInt64} (h : BM w p bw ba n W) (hT : Tz w) {f : Nat} (hf : f < n) : Pur Tryd.prog 36 #[.pointer (some ⟨p, 0, none⟩), .int .i64 n, .int .i64 f] w (.bool true) := by
  unfold Pur
  have hmx := h.ok.max
  obtain ⟨t, h1, h2, h3, ht⟩ := Bm.find_cases (Bm.bit W) hf
  obtain ⟨u, g1, g2, g3, hu⟩ := Bm.find_cases (fun t => !Bm.bit W t) hf
  have hcu : Bm.cnt (Bm.bit W) f (u - f) = u - f := by
    have := Bm.cnt_not (Bm.bit W) f (u - f)
    omega
  have hnx := fun w1 (hb : Below w.heap.size w w1) => next_calls (h.below hb) (hT.below hb) (wf_nat (n := f) (by omega))
  have hnc := fun w1 (hb : Below w.heap.size w w1) => nextclear_calls (h.below hb) (hT.below hb) (wf_nat (n := f) (by omega))
  simp only [Int.toNat_natCast] at hnx hnc
  have hc1 := fun w1 (hb : Below w.heap.size w w1) => countrange_calls (h.below hb) (f := f) (c := t - f) (by omega)
  have hc2 := fun w1 (hb : Below w.heap.size w w1) => countrange_calls (h.below hb) (f := f) (c := u - f) (by omega)
  rw [h3] at hc1
  rw [hcu] at hc2
  have hc3 := fun (e : t < n) w1 (hb : Below w.heap.size w w1) => countrange_calls (h.below hb) (f := t) (c := 1) (by omega)
  have hc4 := fun (e : u < n) w1 (hb : Below w.heap.size w w1) => countrange_calls (h.below hb) (f := u) (c := 1) (by omega)
  rw [Bm.cnt_one] at hc3 hc4
  obtain ⟨T, hTT⟩ : ∃ T, T = Bm.find (Bm.bit W) n f := ⟨_, rfl⟩
  obtain ⟨U0, hUU⟩ : ∃ U0, U0 = Bm.find (fun t => !Bm.bit W t) n f := ⟨_, rfl⟩
  rw [← hTT] at ht hnx
  rw [← hUU] at hu hnc
  have hd1 : (t : Int) - (f : Int) = ((t - f : Nat) : Int) := by omega
  have hd2 : (u : Int) - (f : Int) = ((u - f : Nat) : Int) := by omega
  obtain ⟨td, htd⟩ : ∃ td, td = t - f := ⟨_, rfl⟩
  obtain ⟨ud, hud⟩ : ∃ ud, ud = u - f := ⟨_, rfl⟩
  rw [← htd] at hd1 hc1
  rw [← hud] at hd2 hc2
  have HNX := Lib.hid hnx
  have HNC := Lib.hid hnc
  have HC1 := Lib.hid hc1
  have HC2 := Lib.hid hc2
  have hn0 : (n : Int) ≤ 65536 := by omega
  have hf0 : (0 : Int) ≤ (f : Int) := Int.natCast_nonneg f
  have ht1 : (f : Int) ≤ (t : Int) := by omega
  have ht2 : (t : Int) ≤ (n : Int) := by omega
  have hu1 : (f : Int) ≤ (u : Int) := by omega
  have hu2 : (u : Int) ≤ (n : Int) := by omega
  have hnum := fun (w : World) (e : Int) => num_calls (w := w) e
  have HNUM := Lib.hid hnum
  have HNUMb := Lib.hid hnum
  have HNUMc := Lib.hid hnum
  have HNUMd := Lib.hid hnum
  have HC3 : Hid (T ≠ -1 → T = (t : Int) ∧ ∀ w1, Below w.heap.size w w1 → Pur Tryd.prog 39 #[.pointer (some ⟨p, 0, none⟩), .int .i64 t, .int .i64 1] w1 (.tuple #[.int .i64 1, .int .i64 0])) := Lib.hid fun e => by
    rcases ht with ⟨e', _⟩ | ⟨e', hlt, hb⟩
    · exact absurd e' e
    · refine ⟨e', fun w1 hb1 => ?_⟩
      have := hc3 hlt w1 hb1
      rw [if_pos hb] at this
      exact this
  have HC4 : Hid (U0 ≠ -1 → U0 = (u : Int) ∧ ∀ w1, Below w.heap.size w w1 → Pur Tryd.prog 39 #[.pointer (some ⟨p, 0, none⟩), .int .i64 u, .int .i64 1] w1 (.tuple #[.int .i64 0, .int .i64 0])) := Lib.hid fun e => by
    rcases hu with ⟨e', _⟩ | ⟨e', hlt, hb⟩
    · exact absurd e' e
    · refine ⟨e', fun w1 hb1 => ?_⟩
      have := hc4 hlt w1 hb1
      rw [if_neg (by simpa using hb)] at this
      exact this
  have hT2 : (T = -1 ∧ t = n) ∨ (T ≠ -1 ∧ T = (t : Int)) := by omega
  have hU2 : (U0 = -1 ∧ u = n) ∨ (U0 ≠ -1 ∧ U0 = (u : Int)) := by omega
  clear h hT hf hmx h1 h2 h3 ht g1 g2 g3 hu hcu hnx hnc hc1 hc2 hc3 hc4 hTT hUU htd hud hnum
  go_enter Tryd.func36, Tryd.ntmps36
  go_upto_if 17 with (first
    | (go_at_call 31; refine (HNX.out w (Below.refl _ _)).out.mono ?_; rintro e w1 ⟨rfl, hb1⟩)
    | fail)
  rename_i hnext
  refine wp_cut (fun a' w' => Is (fun U => ⟨#[.pointer (some ⟨p, 0, none⟩), .int .i64 n, .int .i64 f, U 3, U 4, U 5, U 6, .int .i64 T, .int .i64 (t : Int), U 9, U 10, U 11, U 12, U 13, U 14, U 15, U 16, U 17, U 18, U 19, U 20, U 21, U 22, U 23, U 24, U 25, U 26, U 27, U 28, U 29, U 30, U 31, U 32, U 33, U 34, U 35, U 36, U 37, U 38, U 39, U 40, U 41, U 42, U 43, U 44, U 45, U 46, U 47, U 48, U 49, U 50, U 51, U 52, U 53, U 54, U 55, U 56, U 57, U 58, U 59, U 60, U 61, U 62, U 63, U 64, U 65, U 66, U 67, U 68, U 69, U 70, U 71, U 72, U 73, U 74, U 75, U 76, U 77, U 78, U 79, U 80, U 81, U 82, U 83, U 84, U 85, U 86, U 87, U 88, U 89, U 90, U 91, U 92, U 93, U 94, U 95, U 96, U 97, U 98, U 99, U 100, U 101, U 102, U 103, U 104, U 105, U 106], []⟩) a' ∧ w' = w1) ?_ ?_
  · rintro a w' ⟨hU, hww⟩
    rw [hww]
    clear hww w'
    obtain ⟨U, rfl⟩ := hU.out
    refine hnext _ _ ?_
    clear hnext hU
    have HB1 := Lib.hid hb1
    clear hb1
    go_upto_if 44 with (first
      | (go_at_call 39; refine (HC1.out w1 HB1.out).out.mono ?_; clear HC1; rintro e w2 ⟨rfl, hb2⟩)
      | (go_at_call 33; refine (HNUM.out w2 _).out.mono ?_; clear HNUM; rintro e w3 ⟨rfl, hb3⟩)
      | fail)
    rename_i hnext
    have HB3 : Hid (Below w.heap.size w w3) := Lib.hid (HB1.out.trans ((hb2.trans (hb3.mono hb2.size)).mono HB1.out.size))
    clear hb2 hb3
    refine wp_cut (fun a' w' => Is (fun U => ⟨#[.pointer (some ⟨p, 0, none⟩), .int .i64 n, .int .i64 f, U 3, U 4, U 5, U 6, U 7, U 8, U 9, U 10, U 11, U 12, U 13, U 14, U 15, U 16, U 17, U 18, U 19, U 20, U 21, U 22, U 23, U 24, U 25, U 26, U 27, U 28, U 29, U 30, U 31, U 32, U 33, U 34, U 35, U 36, U 37, U 38, U 39, U 40, U 41, U 42, U 43, U 44, U 45, U 46, U 47, U 48, U 49, U 50, U 51, U 52, U 53, U 54, U 55, U 56, U 57, U 58, U 59, U 60, U 61, U 62, U 63, U 64, U 65, U 66, U 67, U 68, U 69, U 70, U 71, U 72, U 73, U 74, U 75, U 76, U 77, U 78, U 79, U 80, U 81, U 82, U 83, U 84, U 85, U 86, U 87, U 88, U 89, U 90, U 91, U 92, U 93, U 94, U 95, U 96, U 97, U 98, U 99, U 100, U 101, U 102, U 103, U 104, U 105, U 106], []⟩) a' ∧ Below w.heap.size w w') ?_ ?_
    · rintro a w4 ⟨hU, hb4⟩
      obtain ⟨U, rfl⟩ := hU.out
      refine hnext _ _ ?_
      have HB4 := Lib.hid hb4
      clear hnext hU hb4 hT2
      go_upto_if 63 with (first
        | (go_at_call 35; refine (HNC.out w4 HB4.out).out.mono ?_; rintro e w5 ⟨rfl, hb5⟩)
        | fail)
      rename_i hnext
      have HB5 : Hid (Below w.heap.size w w5) := Lib.hid (HB4.out.trans (hb5.mono HB4.out.size))
      clear hb5
      refine wp_cut (fun a' w' => Is (fun U => ⟨#[.pointer (some ⟨p, 0, none⟩), .int .i64 n, .int .i64 f, U 3, U 4, U 5, U 6, U 7, .int .i64 (u : Int), U 9, U 10, .int .i64 U0, U 12, U 13, U 14, U 15, U 16, U 17, U 18, U 19, U 20, U 21, U 22, U 23, U 24, U 25, U 26, U 27, U 28, U 29, U 30, U 31, U 32, U 33, U 34, U 35, U 36, U 37, U 38, U 39, U 40, U 41, U 42, U 43, U 44, U 45, U 46, U 47, U 48, U 49, U 50, U 51, U 52, U 53, U 54, U 55, U 56, U 57, U 58, U 59, U 60, U 61, U 62, U 63, U 64, U 65, U 66, U 67, U 68, U 69, U 70, U 71, U 72, U 73, U 74, U 75, U 76, U 77, U 78, U 79, U 80, U 81, U 82, U 83, U 84, U 85, U 86, U 87, U 88, U 89, U 90, U 91, U 92, U 93, U 94, U 95, U 96, U 97, U 98, U 99, U 100, U 101, U 102, U 103, U 104, U 105, U 106], []⟩) a' ∧ w' = w5) ?_ ?_
      · rintro a w' ⟨hU, hww⟩
        rw [hww]
        clear hww w'
        obtain ⟨U, rfl⟩ := hU.out
        refine hnext _ _ ?_
        clear hnext hU
        have hu0 : (u : Int) - (f : Int) = (ud : Int) := hd2
        rcases hU2 with ⟨rfl, rfl⟩ | ⟨hne, he⟩
        · go_wp2_with (first
            | (go_at_call 39; refine (HC2.out w5 HB5.out).out.mono ?_; clear HC2; rintro e w6 ⟨rfl, hb6⟩)
            | (go_at_call 33; refine (HNUMb.out w6 _).out.mono ?_; clear HNUMb; rintro e w7 ⟨rfl, hb7⟩)
            | fail)
          go_ret
          exact ⟨rfl, HB5.out.trans ((hb6.trans (hb7.mono hb6.size)).mono HB5.out.size)⟩
        · have hne' : (U0 == -1) = false := beq_eq_false_iff_ne.2 hne
          have hne2 : (U0 != -1) = true := bne_iff_ne.2 hne
          obtain ⟨he4, h4⟩ := HC4.out hne
          have H4 := Lib.hid h4
          clear he h4 hne
          subst he4
          go_wp2_with (first
            | (go_at_call 39; refine (HC2.out w5 HB5.out).out.mono ?_; clear HC2; rintro e w6 ⟨rfl, hb6⟩; have HB6 : Hid (Below w.heap.size w w6) := Lib.hid (HB5.out.trans (hb6.mono HB5.out.size)); clear hb6)
            | (go_at_call 33; refine (HNUMb.out w6 _).out.mono ?_; clear HNUMb; rintro e w7 ⟨rfl, hb7⟩; have HB7 : Hid (Below w.heap.size w w7) := Lib.hid (HB6.out.trans (hb7.mono HB6.out.size)); clear hb7)
            | (go_at_call 39; refine (H4.out w7 HB7.out).out.mono ?_; clear H4; rintro e w8 ⟨rfl, hb8⟩; have HB8 : Hid (Below w.heap.size w w8) := Lib.hid (HB7.out.trans (hb8.mono HB7.out.size)); clear hb8)
            | (go_at_call 33; refine (HNUMc.out w8 _).out.mono ?_; clear HNUMc; rintro e w9 ⟨rfl, hb9⟩)
            | fail)
          go_ret
          exact ⟨rfl, HB8.out.trans (hb9.mono HB8.out.size)⟩
      · intro J K' hJ hK'
        rcases hU2 with ⟨rfl, rfl⟩ | ⟨hne, rfl⟩
        · go_wp2_with fail
          exact Met.intro (hJ _ _ ⟨isU (fun U => ⟨#[.pointer (some ⟨p, 0, none⟩), .int .i64 u, .int .i64 f, U 3, U 4, U 5, U 6, U 7, .int .i64 (u : Int), U 9, U 10, .int .i64 (-1), U 12, U 13, U 14, U 15, U 16, U 17, U 18, U 19, U 20, U 21, U 22, U 23, U 24, U 25, U 26, U 27, U 28, U 29, U 30, U 31, U 32, U 33, U 34, U 35, U 36, U 37, U 38, U 39, U 40, U 41, U 42, U 43, U 44, U 45, U 46, U 47, U 48, U 49, U 50, U 51, U 52, U 53, U 54, U 55, U 56, U 57, U 58, U 59, U 60, U 61, U 62, U 63, U 64, U 65, U 66, U 67, U 68, U 69, U 70, U 71, U 72, U 73, U 74, U 75, U 76, U 77, U 78, U 79, U 80, U 81, U 82, U 83, U 84, U 85, U 86, U 87, U 88, U 89, U 90, U 91, U 92, U 93, U 94, U 95, U 96, U 97, U 98, U 99, U 100, U 101, U 102, U 103, U 104, U 105, U 106], []⟩) rfl, rfl⟩)
        · have hne' : ((u : Int) == -1) = false := beq_eq_false_iff_ne.2 hne
          go_wp2_with fail
          exact Met.intro (hJ _ _ ⟨isU (fun U => ⟨#[.pointer (some ⟨p, 0, none⟩), .int .i64 n, .int .i64 f, U 3, U 4, U 5, U 6, U 7, .int .i64 (u : Int), U 9, U 10, .int .i64 (u : Int), U 12, U 13, U 14, U 15, U 16, U 17, U 18, U 19, U 20, U 21, U 22, U 23, U 24, U 25, U 26, U 27, U 28, U 29, U 30, U 31, U 32, U 33, U 34, U 35, U 36, U 37, U 38, U 39, U 40, U 41, U 42, U 43, U 44, U 45, U 46, U 47, U 48, U 49, U 50, U 51, U 52, U 53, U 54, U 55, U 56, U 57, U 58, U 59, U 60, U 61, U 62, U 63, U 64, U 65, U 66, U 67, U 68, U 69, U 70, U 71, U 72, U 73, U 74, U 75, U 76, U 77, U 78, U 79, U 80, U 81, U 82, U 83, U 84, U 85, U 86, U 87, U 88, U 89, U 90, U 91, U 92, U 93, U 94, U 95, U 96, U 97, U 98, U 99, U 100, U 101, U 102, U 103, U 104, U 105, U 106], []⟩) rfl, rfl⟩)
    · intro J K' hJ hK'
      rcases hT2 with ⟨rfl, rfl⟩ | ⟨hne, he⟩
      · go_wp2_with fail
        exact Met.intro (hJ _ _ ⟨isU (fun U => ⟨#[.pointer (some ⟨p, 0, none⟩), .int .i64 t, .int .i64 f, U 3, U 4, U 5, U 6, U 7, U 8, U 9, U 10, U 11, U 12, U 13, U 14, U 15, U 16, U 17, U 18, U 19, U 20, U 21, U 22, U 23, U 24, U 25, U 26, U 27, U 28, U 29, U 30, U 31, U 32, U 33, U 34, U 35, U 36, U 37, U 38, U 39, U 40, U 41, U 42, U 43, U 44, U 45, U 46, U 47, U 48, U 49, U 50, U 51, U 52, U 53, U 54, U 55, U 56, U 57, U 58, U 59, U 60, U 61, U 62, U 63, U 64, U 65, U 66, U 67, U 68, U 69, U 70, U 71, U 72, U 73, U 74, U 75, U 76, U 77, U 78, U 79, U 80, U 81, U 82, U 83, U 84, U 85, U 86, U 87, U 88, U 89, U 90, U 91, U 92, U 93, U 94, U 95, U 96, U 97, U 98, U 99, U 100, U 101, U 102, U 103, U 104, U 105, U 106], []⟩) rfl, HB3.out⟩)
      · have hne2 : (T != -1) = true := bne_iff_ne.2 hne
        obtain ⟨he3, h3⟩ := HC3.out hne
        have H3 := Lib.hid h3
        clear he h3 hne
        subst he3
        go_wp2_with (first
          | (go_at_call 39; refine (H3.out w3 HB3.out).out.mono ?_; clear H3; rintro e w8 ⟨rfl, hb8⟩; have HB8 : Hid (Below w.heap.size w w8) := Lib.hid (HB3.out.trans (hb8.mono HB3.out.size)); clear hb8)
          | (go_at_call 33; refine (HNUMc.out w8 _).out.mono ?_; clear HNUMc; rintro e w9 ⟨rfl, hb9⟩)
          | fail)
        exact Met.intro (hJ _ _ ⟨isU (fun U => ⟨#[.pointer (some ⟨p, 0, none⟩), .int .i64 n, .int .i64 f, U 3, U 4, U 5, U 6, U 7, U 8, U 9, U 10, U 11, U 12, U 13, U 14, U 15, U 16, U 17, U 18, U 19, U 20, U 21, U 22, U 23, U 24, U 25, U 26, U 27, U 28, U 29, U 30, U 31, U 32, U 33, U 34, U 35, U 36, U 37, U 38, U 39, U 40, U 41, U 42, U 43, U 44, U 45, U 46, U 47, U 48, U 49, U 50, U 51, U 52, U 53, U 54, U 55, U 56, U 57, U 58, U 59, U 60, U 61, U 62, U 63, U 64, U 65, U 66, U 67, U 68, U 69, U 70, U 71, U 72, U 73, U 74, U 75, U 76, U 77, U 78, U 79, U 80, U 81, U 82, U 83, U 84, U 85, U 86, U 87, U 88, U 89, U 90, U 91, U 92, U 93, U 94, U 95, U 96, U 97, U 98, U 99, U 100, U 101, U 102, U 103, U 104, U 105, U 106], []⟩) rfl, HB8.out.trans (hb9.mono HB8.out.size)⟩)
  · intro J K' hJ hK'
    rcases hT2 with ⟨rfl, rfl⟩ | ⟨hne, rfl⟩
    · go_wp2_with fail
      exact Met.intro (hJ _ _ ⟨isU (fun U => ⟨#[.pointer (some ⟨p, 0, none⟩), .int .i64 t, .int .i64 f, U 3, U 4, U 5, U 6, .int .i64 (-1), .int .i64 (t : Int), U 9, U 10, U 11, U 12, U 13, U 14, U 15, U 16, U 17, U 18, U 19, U 20, U 21, U 22, U 23, U 24, U 25, U 26, U 27, U 28, U 29, U 30, U 31, U 32, U 33, U 34, U 35, U 36, U 37, U 38, U 39, U 40, U 41, U 42, U 43, U 44, U 45, U 46, U 47, U 48, U 49, U 50, U 51, U 52, U 53, U 54, U 55, U 56, U 57, U 58, U 59, U 60, U 61, U 62, U 63, U 64, U 65, U 66, U 67, U 68, U 69, U 70, U 71, U 72, U 73, U 74, U 75, U 76, U 77, U 78, U 79, U 80, U 81, U 82, U 83, U 84, U 85, U 86, U 87, U 88, U 89, U 90, U 91, U 92, U 93, U 94, U 95, U 96, U 97, U 98, U 99, U 100, U 101, U 102, U 103, U 104, U 105, U 106], []⟩) rfl, rfl⟩)
    · have hne' : ((t : Int) == -1) = false := beq_eq_false_iff_ne.2 hne
      go_wp2_with fail
      exact Met.intro (hJ _ _ ⟨isU (fun U => ⟨#[.pointer (some ⟨p, 0, none⟩), .int .i64 n, .int .i64 f, U 3, U 4, U 5, U 6, .int .i64 (t : Int), .int .i64 (t : Int), U 9, U 10, U 11, U 12, U 13, U 14, U 15, U 16, U 17, U 18, U 19, U 20, U 21, U 22, U 23, U 24, U 25, U 26, U 27, U 28, U 29, U 30, U 31, U 32, U 33, U 34, U 35, U 36, U 37, U 38, U 39, U 40, U 41, U 42, U 43, U 44, U 45, U 46, U 47, U 48, U 49, U 50, U 51, U 52, U 53, U 54, U 55, U 56, U 57, U 58, U 59, U 60, U 61, U 62, U 63, U 64, U 65, U 66, U 67, U 68, U 69, U 70, U 71, U 72, U 73, U 74, U 75, U 76, U 77, U 78, U 79, U 80, U 81, U 82, U 83, U 84, U 85, U 86, U 87, U 88, U 89, U 90, U 91, U 92, U 93, U 94, U 95, U 96, U 97, U 98, U 99, U 100, U 101, U 102, U 103, U 104, U 105, U 106], []⟩) rfl, rfl⟩)
end Go.Proofs.YtckbckdaffdjmaaDoor

/- The law's own function listed. -/
namespace Go.Proofs.YtckbckdaffdjmaaDoor
open Go.RowKit
set_option maxRecDepth 100000
set_option linter.unusedVariables false
set_option linter.unusedSimpArgs false

namespace Bm
def listedB (n : Int) (V : List UInt64) : Bool := decide (1 ≤ n ∧ n ≤ 65536) && (validE n.toNat V == 0)
end Bm
set_option maxHeartbeats 4000000 in
theorem lawlisted_calls {w : World} {n : Int} {v : Value} {V : List UInt64} (hv : RU w v V) (hn : (Lit.int .i64 n).wf = true) : Pur Tryd.prog 26 #[.int .i64 n, v] w (.bool (Bm.listedB n V)) := by
  unfold Pur
  obtain ⟨p, cp, rfl, k1, k2, k3, hr⟩ := hv
  have hw := i64_wf hn
  obtain ⟨L, hL⟩ : ∃ L, L = V.length := ⟨_, rfl⟩
  have HL := Lib.hid hL
  rw [← hL] at k1 k3 ⊢
  have hL9 : (L : Int) ≤ 17592186044416 := by omega
  clear hn
  by_cases h1 : n < 1
  · have hb : Bm.listedB n V = false := by unfold Bm.listedB; rw [decide_eq_false (by omega)]; rfl
    rw [hb]
    clear hr hL k1 k2 k3 hw
    go_enter Tryd.func26, Tryd.ntmps26
    go_wp2_with fail
    go_ret
    exact ⟨rfl, Below.refl _ _⟩
  · by_cases h2 : 65536 < n
    · have hb : Bm.listedB n V = false := by unfold Bm.listedB; rw [decide_eq_false (by omega)]; rfl
      rw [hb]
      clear hr hL k1 k2 k3 hw
      go_enter Tryd.func26, Tryd.ntmps26
      go_wp2_with fail
      go_ret
      exact ⟨rfl, Below.refl _ _⟩
    · obtain ⟨m, rfl⟩ : ∃ m : Nat, n = m := ⟨n.toNat, by omega⟩
      have hbb : Bm.listedB (m : Int) V = (Bm.validE m V == 0) := by unfold Bm.listedB; rw [decide_eq_true (by omega), Bool.true_and, Int.toNat_natCast]
      rw [hbb]
      have hrm : Bm.room m = (m + 63) / 64 := rfl
      by_cases h3 : L = Bm.room m
      · obtain ⟨x, hx⟩ : ∃ x, V[L - 1]? = some x := ⟨V[L - 1], List.getElem?_eq_getElem (by omega)⟩
        obtain ⟨g, o, rfl, hg, hc⟩ := hr _ _ hx
        have hx' : V.getD (V.length - 1) 0 = x := by rw [List.getD_eq_getElem?_getD, ← hL, hx]; rfl
        have hve : Bm.validE m V = if m % 64 ≠ 0 ∧ x.toNat / 2 ^ (m % 64) ≠ 0 then 2 else 0 := by unfold Bm.validE; rw [if_neg (by omega), hx']
        have hdiv := div_nat x.toNat (m % 64)
        have hq : ((m : Int) + 63) / 64 = (L : Int) := by omega
        have hl1 : (L : Int) - 1 = ((L - 1 : Nat) : Int) := by omega
        have hl2 : ((L - 1 : Nat) : Int) < (L : Int) := by omega
        have hl3 : (0 : Int) ≤ ((L - 1 : Nat) : Int) := by omega
        have hm1 : (1 : Int) ≤ (m : Int) := by omega
        have hm2 : (m : Int) ≤ 65536 := by omega
        obtain ⟨d, hd⟩ : ∃ d, d = x.toNat / 2 ^ (m % 64) := ⟨_, rfl⟩
        rw [← hd] at hdiv hve
        by_cases e2 : m % 64 = 0
        · have hb : (Bm.validE m V == 0) = true := by rw [hve, if_neg (by simp [e2])]; rfl
          rw [hb]
          have hmm : (m : Int) % 64 = 0 := by omega
          clear hr hL hx hx' hve hdiv hd hrm h3 k1 k3 hw hbb hb e2 h1 h2
          go_enter Tryd.func26, Tryd.ntmps26
          go_wp2_with fail
          go_ret
          exact ⟨rfl, Below.refl _ _⟩
        · have hmm : ((m : Int) % 64 == 0) = false := by simp; omega
          by_cases e3 : d = 0
          · have hb : (Bm.validE m V == 0) = true := by rw [hve, if_neg (by simp [e3])]; rfl
            rw [hb]
            have hdd : ((d : Int) == 0) = true := by rw [e3]; rfl
            clear hr hL hx hx' hve hd hrm h3 k1 k3 hw hbb hb e2 h1 h2 e3
            go_enter Tryd.func26, Tryd.ntmps26
            go_wp2_with fail
            go_ret
            exact ⟨rfl, Below.refl _ _⟩
          · have hb : (Bm.validE m V == 0) = false := by rw [hve, if_pos ⟨e2, e3⟩]; rfl
            rw [hb]
            have hdd : ((d : Int) == 0) = false := beq_eq_false_iff_ne.2 fun e => e3 (Int.ofNat_inj.1 e)
            clear hr hL hx hx' hve hd hrm h3 k1 k3 hw hbb hb e2 h1 h2 e3
            go_enter Tryd.func26, Tryd.ntmps26
            go_wp2_with fail
            go_ret
            exact ⟨rfl, Below.refl _ _⟩
      · have hb : (Bm.validE m V == 0) = false := by unfold Bm.validE; rw [if_pos (by omega)]; rfl
        rw [hb]
        have hq : ((L : Int) != ((m : Int) + 63) / 64) = true := bne_iff_ne.2 (by omega)
        have hm1 : (1 : Int) ≤ (m : Int) := by omega
        have hm2 : (m : Int) ≤ 65536 := by omega
        clear hr hL hrm h3 k1 k3 hw hbb hb h1 h2
        go_enter Tryd.func26, Tryd.ntmps26
        go_wp2_with fail
        go_ret
        exact ⟨rfl, Below.refl _ _⟩
end Go.Proofs.YtckbckdaffdjmaaDoor

/- The law's own function lay. -/
namespace Go.Proofs.YtckbckdaffdjmaaDoor
open Go.RowKit
set_option maxRecDepth 100000
set_option linter.unusedVariables false
set_option linter.unusedSimpArgs false

/-- It returns; the bitmap is one of n bits. -/
def SB (w : World) (p bw ba n : Nat) (e : Ending) (w' : World) : Prop := (∃ v, e = .returned v) ∧ ∃ W', BM w' p bw ba n W' ∧ Mod (BM.At p bw ba) w w'
section
variable {w : World} {p bw ba n : Nat} {W : List UInt64}
theorem SB.of_pur {f : FuncId} {args : Array Value} {v : Value} (h : BM w p bw ba n W) (hp : Pur Tryd.prog f args w v) : Calls Tryd.prog f args w (SB w p bw ba n) :=
  hp.out.mono fun e w' ⟨he, hb⟩ => ⟨⟨_, he⟩, W, h.below hb, Mod.of_below hb⟩
theorem set_any (h : BM w p bw ba n W) (i : Int) : Calls Tryd.prog 28 #[.pointer (some ⟨p, 0, none⟩), .int .i64 i] w (SB w p bw ba n) := by
  by_cases hi : i < 0 ∨ (n : Int) ≤ i
  · exact SB.of_pur h (set_err h hi)
  · obtain ⟨m, rfl⟩ : ∃ m : Nat, i = m := ⟨i.toNat, by omega⟩
    exact (set_calls h (i := m) (by omega)).mono fun e w' ⟨he, h1, h2⟩ => ⟨⟨_, he⟩, _, h1, h2⟩
theorem clear_any (h : BM w p bw ba n W) (i : Int) : Calls Tryd.prog 34 #[.pointer (some ⟨p, 0, none⟩), .int .i64 i] w (SB w p bw ba n) := by
  by_cases hi : i < 0 ∨ (n : Int) ≤ i
  · exact SB.of_pur h (clear_err h hi)
  · obtain ⟨m, rfl⟩ : ∃ m : Nat, i = m := ⟨i.toNat, by omega⟩
    exact (clear_calls h (i := m) (by omega)).mono fun e w' ⟨he, h1, h2⟩ => ⟨⟨_, he⟩, _, h1, h2⟩
theorem setrange_any (h : BM w p bw ba n W) {f c : Int} (h1 : (Lit.int .i64 f).wf = true) (h2 : (Lit.int .i64 c).wf = true) : Calls Tryd.prog 67 #[.pointer (some ⟨p, 0, none⟩), .int .i64 f, .int .i64 c] w (SB w p bw ba n) := by
  by_cases he : Bm.rangeE n f c = 0
  · obtain ⟨k1, k2, k3, k4⟩ := Bm.rangeE_ok he
    obtain ⟨a, rfl⟩ : ∃ a : Nat, f = a := ⟨f.toNat, by omega⟩
    obtain ⟨b, rfl⟩ : ∃ b : Nat, c = b := ⟨c.toNat, by omega⟩
    exact (setrange_calls h (f := a) (c := b) (by omega)).mono fun e w' ⟨he, h1, h2⟩ => ⟨⟨_, he⟩, _, h1, h2⟩
  · exact SB.of_pur h (setrange_err h h1 h2 he)
theorem clearrange_any (h : BM w p bw ba n W) {f c : Int} (h1 : (Lit.int .i64 f).wf = true) (h2 : (Lit.int .i64 c).wf = true) : Calls Tryd.prog 68 #[.pointer (some ⟨p, 0, none⟩), .int .i64 f, .int .i64 c] w (SB w p bw ba n) := by
  by_cases he : Bm.rangeE n f c = 0
  · obtain ⟨k1, k2, k3, k4⟩ := Bm.rangeE_ok he
    obtain ⟨a, rfl⟩ : ∃ a : Nat, f = a := ⟨f.toNat, by omega⟩
    obtain ⟨b, rfl⟩ : ∃ b : Nat, c = b := ⟨c.toNat, by omega⟩
    exact (clearrange_calls h (f := a) (c := b) (by omega)).mono fun e w' ⟨he, h1, h2⟩ => ⟨⟨_, he⟩, _, h1, h2⟩
  · exact SB.of_pur h (clearrange_err h h1 h2 he)
theorem merge_any (h : BM w p bw ba n W) {v : Value} {V : List UInt64} (hv : RU w v V) (hne : ∀ g, v.ownBlock = some g → ¬ BM.At p bw ba g) : Calls Tryd.prog 43 #[.pointer (some ⟨p, 0, none⟩), v] w (SB w p bw ba n) := by
  by_cases he : Bm.validE n V = 0
  · exact (merge_calls h hv (Bm.ok_of_valid h.ok.pos h.ok.max he) hne).mono fun e w' ⟨he, h1, h2⟩ => ⟨⟨_, he⟩, _, h1, h2⟩
  · exact SB.of_pur h (merge_err h hv he)
end
set_option maxHeartbeats 16000000 in
theorem lawlay_calls {w : World} {n : Nat} {v sv : Value} {V : List UInt64} {ops : List OpV} (hok : Bm.Ok n V) (hv : RU w v V) (hs : SlOp w sv ops) :
    Calls Tryd.prog 27 #[.int .i64 n, v, sv] w fun e w' => ∃ p bw ba W', e = .returned (.pointer (some ⟨p, 0, none⟩)) ∧ BM w' p bw ba n W' ∧ w.heap.size ≤ p ∧ w.heap.size ≤ bw ∧ w.heap.size ≤ ba ∧ Below w.heap.size w w' := by
  have hlen := hok.len
  have hr : Bm.room n ≤ 1024 := by have := hok.max; unfold Bm.room; omega
  have hcop := copied_calls hv (by omega)
  have HL : Hid (V.length + 3 ≤ 17592186044416) := Lib.hid (by omega)
  have HOK := Lib.hid hok
  have HV := Lib.hid hv
  have HC := Lib.hid hcop
  have HS := Lib.hid hs
  obtain ⟨q, c, hse, hsl, -⟩ := hs
  obtain ⟨M, hM⟩ : ∃ M, M = ops.length := ⟨_, rfl⟩
  have HM := Lib.hid hM
  rw [← hM] at hse hsl
  have hM9 : (M : Int) ≤ 1256584717715 := by omega
  obtain ⟨vp, vc, hve⟩ := hv.form
  generalize V.length = VL at hve
  subst hse hve
  clear hok hv hcop hM hlen hr
  go_enter Tryd.func27, Tryd.ntmps27
  go_upto_region 4 with (first
    | (go_at_call 19; refine HC.out.mono ?_; clear HC; rintro e w1 ⟨xi, rfl, hci, hb1⟩
       have hfr := from_calls (hci.ru HL.out) HOK.out
       have HB1 := Lib.hid hb1
       have HFR := Lib.hid hfr
       clear hci hb1 hfr)
    | (go_at_call 54; refine HFR.out.mono ?_; clear HFR; rintro e w2 ⟨p, bw, ba, rfl, hm, hp1, hp2, hp3, hb2⟩
       have HB2 : Hid (Below w.heap.size w w2) := Lib.hid (HB1.out.trans (hb2.mono HB1.out.size))
       have HP : Hid (∀ k, BM.At p bw ba k → w.heap.size ≤ k) := Lib.hid (by have := HB1.out.size; rintro k (rfl | rfl | rfl) <;> omega)
       have HBM := Lib.hid hm
       clear hm hp1 hp2 hp3 hb2 HB1)
    | (go_at_call 33; refine (num_calls _).out.mono ?_; rintro e w3 ⟨rfl, hb3⟩)
    | fail)
  have HB3 : Hid (Below w.heap.size w w3) := Lib.hid (HB2.out.trans (hb3.mono HB2.out.size))
  have HM3 := Lib.hid (HBM.out.below hb3)
  clear hb3
  go_wp2_with fail
  refine wp_loop_count (fun i a w' => ∃ W', Is (fun U => ⟨#[U 0, U 1, .slice q M c, U 3, U 4, U 5, U 6, .pointer (some ⟨p, 0, none⟩), U 8, .int .i64 i, U 10, U 11, U 12, U 13, U 14, U 15, U 16, U 17, U 18, U 19, U 20, U 21, U 22, U 23, U 24, U 25, U 26, U 27, U 28, U 29, U 30, U 31, U 32, U 33, U 34, U 35, U 36, U 37, U 38, U 39, U 40, U 41, U 42, U 43, U 44, U 45, U 46, U 47, U 48, U 49, U 50, U 51, U 52, U 53, U 54, U 55, U 56, U 57, U 58, U 59, U 60, U 61, U 62, U 63, U 64, U 65, U 66, U 67, U 68, U 69, U 70, U 71, U 72], []⟩) a ∧ BM w' p bw ba n W' ∧ Below w.heap.size w w') M ⟨V, isU (fun U => ⟨#[U 0, U 1, .slice q M c, U 3, U 4, U 5, U 6, .pointer (some ⟨p, 0, none⟩), U 8, .int .i64 0, U 10, U 11, U 12, U 13, U 14, U 15, U 16, U 17, U 18, U 19, U 20, U 21, U 22, U 23, U 24, U 25, U 26, U 27, U 28, U 29, U 30, U 31, U 32, U 33, U 34, U 35, U 36, U 37, U 38, U 39, U 40, U 41, U 42, U 43, U 44, U 45, U 46, U 47, U 48, U 49, U 50, U 51, U 52, U 53, U 54, U 55, U 56, U 57, U 58, U 59, U 60, U 61, U 62, U 63, U 64, U 65, U 66, U 67, U 68, U 69, U 70, U 71, U 72], []⟩) rfl, HM3.out, HB3.out⟩ ?_ ?_
  · rintro i a w' hi ⟨W', hU, hm, hb⟩
    obtain ⟨U, rfl⟩ := hU.out
    obtain ⟨q', c', e', _, hr⟩ := HS.out.below hb
    simp only [Value.slice.injEq] at e'
    obtain ⟨rfl, -, -⟩ := e'
    obtain ⟨o, ho⟩ : ∃ o, ops[i]? = some o := ⟨_, List.getElem?_eq_getElem (by rw [← HM.out]; exact hi)⟩
    obtain ⟨g, off, rfl, hg, hoo, hrg⟩ := hr i o ho
    have hi' : (i : Int) < (M : Int) := by exact_mod_cast hi
    have hi0 : (0 : Int) ≤ (i : Int) := Int.natCast_nonneg i
    have HBI := Lib.hid hb
    have HMI := Lib.hid hm
    have HOO := Lib.hid hoo
    clear hU hb hm hr ho hsl
    go_upto_region 7 with fail
    rename_i hnext
    refine wp_region_lit ?_
    refine Og.st_start (n := 73) rfl fun a hF => ?_
    refine Og.st_same (.slice (some ⟨g, off, none⟩) M c) hF rfl rfl (by decide) (by kernel_rfl) ?_
    clear hF a; intro a hF
    refine Og.st_same (.int .i64 i) hF rfl rfl (by decide) (by kernel_rfl) ?_
    clear hF a; intro a hF
    refine Og.st_same (.pointer (some ⟨g, off + i * 8, none⟩)) hF rfl rfl (by decide) (exec_idx rfl (show (Instr.indexAt 49 (.slice (some ⟨g, off, none⟩) M c) (.int .i64 i)).run Tryd.prog w' = _ from idx_op w' g off M c i hi)) ?_
    clear hF a; intro a hF
    refine Og.st_same (.agg (opL o).toArray) hF rfl rfl (by decide) (Og.exec_load rfl (load_op hrg)) ?_
    clear hF a; intro a hF
    refine Og.st_val (w' := w'.alloc (.cells opZ.toArray 39)) (.pointer (some ⟨w'.heap.size, 0, none⟩)) hF rfl rfl (by decide) (alloc_op rfl w') ?_
    clear hF a; intro a hF
    refine Og.st_skip (w' := (w'.alloc (.cells opZ.toArray 39)).setCells w'.heap.size 0 (opL o)) hF rfl rfl
      (exec_store (o := 0) (vs := opL o) (cs := opZ) rfl rfl rfl (heap_new _ _ _ rfl) (Nat.le_refl 8) opi (opL_one hoo)) ?_
    clear hF a; intro a hF
    obtain ⟨w4, hw4, hrw4, hb4⟩ := op_copy hoo
    rw [← hw4]
    obtain ⟨A, hA⟩ : ∃ A, A = w'.heap.size := ⟨_, rfl⟩
    rw [← hA] at hF hrw4
    refine wpList_nil ?_
    obtain ⟨U, rfl⟩ := Og.Fr.lit_ex hF (fun U => ⟨#[U 0, U 1, .slice (some ⟨g, off, none⟩) M c, U 3, U 4, U 5, U 6, .pointer (some ⟨p, 0, none⟩), U 8, .int .i64 i, .pointer (some ⟨A, 0, none⟩), U 11, U 12, U 13, U 14, U 15, U 16, U 17, U 18, U 19, U 20, U 21, U 22, U 23, U 24, U 25, U 26, U 27, U 28, U 29, U 30, U 31, U 32, U 33, U 34, U 35, U 36, U 37, U 38, U 39, U 40, U 41, U 42, U 43, U 44, U 45, U 46, U 47, U 48, U 49, U 50, U 51, U 52, U 53, U 54, U 55, U 56, U 57, U 58, U 59, U 60, U 61, U 62, U 63, U 64, U 65, U 66, U 67, U 68, U 69, U 70, U 71, U 72], []⟩) (by kernel_rfl)
    clear hF
    refine hnext _ _ ?_
    clear hnext
    have ck := hrw4.cell (i := 0) (v := .int .i64 o.kind) rfl
    have ca := hrw4.cell (i := 2) (v := .int .i64 o.a) rfl
    have cb := hrw4.cell (i := 3) (v := .int .i64 o.b) rfl
    have cv := hrw4.cell (i := 4) (v := o.wv) rfl
    have HM4 := Lib.hid (HMI.out.below hb4)
    have HB4 : Hid (Below w.heap.size w w4) := Lib.hid (HBI.out.trans (hb4.mono HBI.out.size))
    have HO4 := Lib.hid (HOO.out.below hb4)
    obtain ⟨wp, wc, hwv⟩ := HO4.out.words.form
    rw [hwv] at cv
    have hcw := copied_calls HO4.out.words (by have := HO4.out.len; omega)
    rw [hwv] at hcw
    have HCW := Lib.hid hcw
    have HWL : Hid (o.words.length + 3 ≤ 17592186044416) := Lib.hid (by have := HO4.out.len; omega)
    have HAW := Lib.hid HO4.out.aw
    have HBW := Lib.hid HO4.out.bw
    obtain ⟨WD, hWD⟩ : ∃ WD, WD = o.words := ⟨_, rfl⟩
    rw [← hWD] at cv HCW HWL
    generalize o.kind = K at *
    generalize o.a = Ka at *
    generalize o.b = Kb at *
    clear hoo hrg hg hi hb4 hrw4 hA hw4 hcw hwv hWD HOO HO4 HBI HMI HS
    obtain ⟨VW, hVW⟩ : ∃ VW, VW = WD.length := ⟨_, rfl⟩
    rw [← hVW] at cv HCW HWL
    have HVW := Lib.hid hVW
    clear hVW
    by_cases k1 : K = 1
    · subst k1
      go_wp2_with (first | (go_at_call 28; refine (set_any HM4.out Ka).mono ?_; rintro e w5 ⟨⟨v5, rfl⟩, W5, hm5, hmd⟩) | fail)
      exact ⟨W5, isU (fun U => ⟨#[U 0, U 1, .slice (some ⟨g, off, none⟩) M c, U 3, U 4, U 5, U 6, .pointer (some ⟨p, 0, none⟩), U 8, .int .i64 (i + 1 : Nat), U 10, U 11, U 12, U 13, U 14, U 15, U 16, U 17, U 18, U 19, U 20, U 21, U 22, U 23, U 24, U 25, U 26, U 27, U 28, U 29, U 30, U 31, U 32, U 33, U 34, U 35, U 36, U 37, U 38, U 39, U 40, U 41, U 42, U 43, U 44, U 45, U 46, U 47, U 48, U 49, U 50, U 51, U 52, U 53, U 54, U 55, U 56, U 57, U 58, U 59, U 60, U 61, U 62, U 63, U 64, U 65, U 66, U 67, U 68, U 69, U 70, U 71, U 72], []⟩) rfl, hm5, HB4.out.trans (hmd.below HB4.out.size HP.out)⟩
    · by_cases k2 : K = 2
      · subst k2
        go_wp2_with (first | (go_at_call 34; refine (clear_any HM4.out Ka).mono ?_; rintro e w5 ⟨⟨v5, rfl⟩, W5, hm5, hmd⟩) | fail)
        exact ⟨W5, isU (fun U => ⟨#[U 0, U 1, .slice (some ⟨g, off, none⟩) M c, U 3, U 4, U 5, U 6, .pointer (some ⟨p, 0, none⟩), U 8, .int .i64 (i + 1 : Nat), U 10, U 11, U 12, U 13, U 14, U 15, U 16, U 17, U 18, U 19, U 20, U 21, U 22, U 23, U 24, U 25, U 26, U 27, U 28, U 29, U 30, U 31, U 32, U 33, U 34, U 35, U 36, U 37, U 38, U 39, U 40, U 41, U 42, U 43, U 44, U 45, U 46, U 47, U 48, U 49, U 50, U 51, U 52, U 53, U 54, U 55, U 56, U 57, U 58, U 59, U 60, U 61, U 62, U 63, U 64, U 65, U 66, U 67, U 68, U 69, U 70, U 71, U 72], []⟩) rfl, hm5, HB4.out.trans (hmd.below HB4.out.size HP.out)⟩
      · by_cases k3 : K = 3
        · subst k3
          go_wp2_with (first | (go_at_call 67; refine (setrange_any HM4.out HAW.out HBW.out).mono ?_; rintro e w5 ⟨⟨v5, rfl⟩, W5, hm5, hmd⟩) | fail)
          exact ⟨W5, isU (fun U => ⟨#[U 0, U 1, .slice (some ⟨g, off, none⟩) M c, U 3, U 4, U 5, U 6, .pointer (some ⟨p, 0, none⟩), U 8, .int .i64 (i + 1 : Nat), U 10, U 11, U 12, U 13, U 14, U 15, U 16, U 17, U 18, U 19, U 20, U 21, U 22, U 23, U 24, U 25, U 26, U 27, U 28, U 29, U 30, U 31, U 32, U 33, U 34, U 35, U 36, U 37, U 38, U 39, U 40, U 41, U 42, U 43, U 44, U 45, U 46, U 47, U 48, U 49, U 50, U 51, U 52, U 53, U 54, U 55, U 56, U 57, U 58, U 59, U 60, U 61, U 62, U 63, U 64, U 65, U 66, U 67, U 68, U 69, U 70, U 71, U 72], []⟩) rfl, hm5, HB4.out.trans (hmd.below HB4.out.size HP.out)⟩
        · by_cases k4 : K = 4
          · subst k4
            go_wp2_with (first | (go_at_call 68; refine (clearrange_any HM4.out HAW.out HBW.out).mono ?_; rintro e w5 ⟨⟨v5, rfl⟩, W5, hm5, hmd⟩) | fail)
            exact ⟨W5, isU (fun U => ⟨#[U 0, U 1, .slice (some ⟨g, off, none⟩) M c, U 3, U 4, U 5, U 6, .pointer (some ⟨p, 0, none⟩), U 8, .int .i64 (i + 1 : Nat), U 10, U 11, U 12, U 13, U 14, U 15, U 16, U 17, U 18, U 19, U 20, U 21, U 22, U 23, U 24, U 25, U 26, U 27, U 28, U 29, U 30, U 31, U 32, U 33, U 34, U 35, U 36, U 37, U 38, U 39, U 40, U 41, U 42, U 43, U 44, U 45, U 46, U 47, U 48, U 49, U 50, U 51, U 52, U 53, U 54, U 55, U 56, U 57, U 58, U 59, U 60, U 61, U 62, U 63, U 64, U 65, U 66, U 67, U 68, U 69, U 70, U 71, U 72], []⟩) rfl, hm5, HB4.out.trans (hmd.below HB4.out.size HP.out)⟩
          · by_cases k5 : K = 5
            · subst k5
              go_wp2_with (first
                | (go_at_call 19; refine HCW.out.mono ?_; clear HCW; rintro e w5 ⟨xi, rfl, hci, hb5⟩
                   have hxi := hci.ru (by rw [← HVW.out]; exact HWL.out)
                   have hxo := fun g0 (e0 : xi.ownBlock = some g0) => ((hci.ou (by rw [← HVW.out]; exact HWL.out)).lt g0 e0).1
                   have HXI := Lib.hid hxi
                   have HXO := Lib.hid hxo
                   have HB5 := Lib.hid hb5
                   clear hci hb5 hxi hxo)
                | (go_at_call 43; refine (merge_any (HM4.out.below HB5.out) HXI.out (fun g0 e0 => by have h1 := HXO.out g0 e0; have h2 := heap_lt HM4.out.hs; have h3 := heap_lt HM4.out.hw; have h4 := heap_lt HM4.out.ha; rintro (e | e | e) <;> omega)).mono ?_; rintro e w6 ⟨⟨v6, rfl⟩, W5, hm5, hmd⟩)
                | fail)
              have HB6 : Hid (Below w.heap.size w w5) := Lib.hid (HB4.out.trans (HB5.out.mono HB4.out.size))
              exact ⟨W5, isU (fun U => ⟨#[U 0, U 1, .slice (some ⟨g, off, none⟩) M c, U 3, U 4, U 5, U 6, .pointer (some ⟨p, 0, none⟩), U 8, .int .i64 (i + 1 : Nat), U 10, U 11, U 12, U 13, U 14, U 15, U 16, U 17, U 18, U 19, U 20, U 21, U 22, U 23, U 24, U 25, U 26, U 27, U 28, U 29, U 30, U 31, U 32, U 33, U 34, U 35, U 36, U 37, U 38, U 39, U 40, U 41, U 42, U 43, U 44, U 45, U 46, U 47, U 48, U 49, U 50, U 51, U 52, U 53, U 54, U 55, U 56, U 57, U 58, U 59, U 60, U 61, U 62, U 63, U 64, U 65, U 66, U 67, U 68, U 69, U 70, U 71, U 72], []⟩) rfl, hm5, HB6.out.trans (hmd.below HB6.out.size HP.out)⟩
            · have z1 : (K == 1) = false := by simpa using k1
              have z2 : (K == 2) = false := by simpa using k2
              have z3 : (K == 3) = false := by simpa using k3
              have z4 : (K == 4) = false := by simpa using k4
              have z5 : (K == 5) = false := by simpa using k5
              clear k1 k2 k3 k4 k5
              go_wp2_with fail
              exact ⟨W', isU (fun U => ⟨#[U 0, U 1, .slice (some ⟨g, off, none⟩) M c, U 3, U 4, U 5, U 6, .pointer (some ⟨p, 0, none⟩), U 8, .int .i64 (i + 1 : Nat), U 10, U 11, U 12, U 13, U 14, U 15, U 16, U 17, U 18, U 19, U 20, U 21, U 22, U 23, U 24, U 25, U 26, U 27, U 28, U 29, U 30, U 31, U 32, U 33, U 34, U 35, U 36, U 37, U 38, U 39, U 40, U 41, U 42, U 43, U 44, U 45, U 46, U 47, U 48, U 49, U 50, U 51, U 52, U 53, U 54, U 55, U 56, U 57, U 58, U 59, U 60, U 61, U 62, U 63, U 64, U 65, U 66, U 67, U 68, U 69, U 70, U 71, U 72], []⟩) rfl, HM4.out, HB4.out⟩
  · rintro a w' ⟨W', hU, hm, hb⟩
    obtain ⟨U, rfl⟩ := hU.out
    have HB := Lib.hid hb
    have HMM := Lib.hid hm
    clear hU hb hm
    go_wp2_with fail
    go_ret
    exact ⟨p, bw, ba, W', rfl, HMM.out, HP.out _ (.inl rfl), HP.out _ (.inr (.inl rfl)), HP.out _ (.inr (.inr rfl)), HB.out⟩
end Go.Proofs.YtckbckdaffdjmaaDoor

/- A script played on both pairs: pass. (Printed by wip/w7gen/mkpass.py.) -/
namespace Go.Proofs.YtckbckdaffdjmaaDoor
open Go.RowKit
set_option maxRecDepth 100000
set_option linter.unusedVariables false
set_option linter.unusedSimpArgs false

/-- Two arguments boxed. -/
theorem boxed2 (w : World) (c1 c2 : List Value) (t : TypeId) : ∃ w1 A1 A2, w1 = (w.alloc (.cells c1.toArray t)).alloc (.cells c2.toArray t) ∧ A1 = w.heap.size ∧ A2 = w.heap.size + 1 ∧ Rw w1 A1 t c1 ∧ Rw w1 A2 t c2 ∧ Below w.heap.size w w1 ∧ A2 < w1.heap.size :=
  ⟨_, _, _, rfl, rfl, rfl, (heap_old _ _ _ (by simp)).trans (heap_new _ _ _ rfl), heap_new _ _ _ (by simp), (below_alloc1 _ _).alloc (by simp) _, by simp⟩
set_option maxHeartbeats 32000000 in
theorem pass_calls {w0 w : World} {b : Nat} {own : Nat → Prop} {late : Bool} (hb0 : Below w0.heap.size w0 w) (hbk : Bok w b own late 0) (hown : ∀ k, own k → w0.heap.size ≤ k) {sv : Value} {ops : List OpV} (hs : SlOp w0 sv ops) (hT : Tz w0)
    {f1 f2 : Bool} {n1 n2 : Int} (hn1 : (Lit.int .i64 n1).wf = true) (hn2 : (Lit.int .i64 n2).wf = true) {x1 x2 : Value} {V1 V2 : List UInt64} (hx1 : RU w0 x1 V1) (hx2 : RU w0 x2 V2) (hV1 : V1.length + 80 ≤ 17592186044416) (hV2 : V2.length + 80 ≤ 17592186044416) (lo hi : Int) :
    Calls Tryd.prog 72 #[.agg #[.bool f1, .int .i64 n1, x1], .agg #[.bool f2, .int .i64 n2, x2], sv, .int .i64 lo, .int .i64 hi, .pointer (some ⟨b, 0, none⟩)] w fun e w' => e = .returned (.bool true) ∧ Below w0.heap.size w0 w' := by
  obtain ⟨w1, A1, A2, hw1, hA1, hA2, hr1, hr2, hb1, hl1⟩ := boxed2 w [.bool f1, .int .i64 n1, x1] [.bool f2, .int .i64 n2, x2] 24
  have hbk1 := hbk.below hb1
  have hlt := hbk.lt
  have hb01 := hb0.trans (hb1.mono hb0.size)
  have hm1 := made_calls (fr := f1) (keepC_any late) (by omega) hbk1 hn1 (hx1.below hb01) hV1
  have HM1 := Lib.hid hm1
  have c1 := hbk1.late_cell
  have d0 := hr1.cell (i := 0) rfl
  have d1 := hr1.cell (i := 1) rfl
  have d2 := hr1.cell (i := 2) rfl
  have lb1 : b < w1.heap.size := hbk1.lt b hbk1.at_
  have HB01 := Lib.hid hb01
  have HR2 := Lib.hid hr2
  have HX2 := Lib.hid hx2
  have HN2 := Lib.hid hn2
  have HV2 := Lib.hid hV2
  have HOW := Lib.hid hown
  have HA2N : Hid (¬ own A2) := Lib.hid (fun e => by have := hlt _ e; omega)
  have HS := Lib.hid hs
  have HT := Lib.hid hT
  obtain ⟨px1, cx1, e1⟩ := hx1.form
  obtain ⟨px2, cx2, e2⟩ := hx2.form
  obtain ⟨q, c, hse, hsl, -⟩ := hs
  generalize V1.length = L1 at e1
  obtain ⟨L2, hL2⟩ : ∃ L, L = V2.length := ⟨_, rfl⟩
  rw [← hL2] at e2
  obtain ⟨M, hM⟩ : ∃ M, M = ops.length := ⟨_, rfl⟩
  have HM := Lib.hid hM
  rw [← hM] at hse hsl
  subst e1 e2 hse
  clear hm1 hbk1 hlt hb01 hr1 hr2 hx1 hx2 hn1 hn2 hV1 hV2 hown hb0 hbk hb1 hL2 hT hM hl1
  go_enter Tryd.func72, Tryd.ntmps72
  go_upto_region 1 with fail
  rw [show (w.alloc (.cells #[.bool f1, .int .i64 n1, .slice px1 L1 cx1] 24)).alloc (.cells #[.bool f2, .int .i64 n2, .slice px2 L2 cx2] 24) = w1 from hw1.symm, ← hA2, ← hA1]
  clear hw1 hA1 hA2
  go_upto_region 3 with (first
    | (go_at_call 17
       refine HM1.out.mono ?_
       clear HM1
       rintro e w2 ⟨P1, own2, rfl, hmd2, hbk2, hlow2, hm2⟩
       have hr2 := HR2.out.mod hm2 HA2N.out
       have g0 := hr2.cell (i := 0) rfl
       have g1 := hr2.cell (i := 1) rfl
       have g2 := hr2.cell (i := 2) rfl
       have hb02 : Below w0.heap.size w0 w2 := HB01.out.trans (hm2.below HB01.out.size HOW.out)
       have HC2 := Lib.hid (made_calls (fr := f2) (keepC_any late) (by omega) hbk2 HN2.out (HX2.out.below hb02) HV2.out)
       have HMD2 := Lib.hid hmd2
       have HBK2 := Lib.hid hbk2
       have HLOW2 := Lib.hid hlow2
       have HM2 := Lib.hid hm2
       clear hmd2 hbk2 hlow2 hm2 hr2 hb02)
    | fail)
  clear c1 d0 d1 d2 lb1
  go_upto_region 4 with (first
    | (go_at_call 17
       refine HC2.out.mono ?_
       clear HC2
       rintro e w3 ⟨P2, own3, rfl, hmd3, hbk3, hlow3, hm3⟩
       obtain ⟨B1, B2, hinv⟩ := PInv.start HB01.out HOW.out HMD2.out HLOW2.out HM2.out HBK2.out hmd3 hlow3 hm3 hbk3
       have HINV := Lib.hid hinv
       clear hmd3 hbk3 hlow3 hm3 hinv)
    | fail)
  clear g0 g1 g2 HX2 HN2 HV2 HR2 HA2N HB01 HOW HMD2 HBK2 HLOW2 HM2
  go_wp2_with fail
  refine wp_loop_count (fun i a w' => Is (fun U => ⟨#[U 0, U 1, .slice q M c, .int .i64 lo, .int .i64 hi, .pointer (some ⟨b, 0, none⟩), U 6, U 7, U 8, U 9, U 10, U 11, .bool false, .bool late, .pointer (some ⟨P1, 0, none⟩), U 15, .pointer (some ⟨P2, 0, none⟩), U 17, .int .i64 i, U 19, U 20, U 21, U 22, U 23, U 24, U 25, U 26, U 27, U 28, U 29, U 30, U 31, U 32, U 33, U 34, U 35, U 36, U 37, U 38, U 39, U 40, U 41, U 42, U 43, U 44, U 45, U 46, U 47, U 48, U 49, U 50, U 51, U 52, U 53, U 54, U 55, U 56, U 57, U 58, U 59, U 60, U 61, U 62, U 63, U 64, U 65, U 66, U 67, U 68, U 69, U 70, U 71, U 72, U 73, U 74, U 75, U 76, U 77, U 78, U 79, U 80, U 81, U 82, U 83, U 84, U 85, U 86, U 87, U 88, U 89, U 90, U 91, U 92, U 93, U 94, U 95, U 96, U 97, U 98, U 99, U 100, U 101, U 102, U 103, U 104, U 105, U 106, U 107, U 108, U 109, U 110, U 111], []⟩) a ∧ ∃ own' A1 A2, PInv w0 w' P1 P2 b late (4 + 4 * i) own' A1 A2) M ⟨isU (fun U => ⟨#[U 0, U 1, .slice q M c, .int .i64 lo, .int .i64 hi, .pointer (some ⟨b, 0, none⟩), U 6, U 7, U 8, U 9, U 10, U 11, .bool false, .bool late, .pointer (some ⟨P1, 0, none⟩), U 15, .pointer (some ⟨P2, 0, none⟩), U 17, .int .i64 0, U 19, U 20, U 21, U 22, U 23, U 24, U 25, U 26, U 27, U 28, U 29, U 30, U 31, U 32, U 33, U 34, U 35, U 36, U 37, U 38, U 39, U 40, U 41, U 42, U 43, U 44, U 45, U 46, U 47, U 48, U 49, U 50, U 51, U 52, U 53, U 54, U 55, U 56, U 57, U 58, U 59, U 60, U 61, U 62, U 63, U 64, U 65, U 66, U 67, U 68, U 69, U 70, U 71, U 72, U 73, U 74, U 75, U 76, U 77, U 78, U 79, U 80, U 81, U 82, U 83, U 84, U 85, U 86, U 87, U 88, U 89, U 90, U 91, U 92, U 93, U 94, U 95, U 96, U 97, U 98, U 99, U 100, U 101, U 102, U 103, U 104, U 105, U 106, U 107, U 108, U 109, U 110, U 111], []⟩) rfl, own3, B1, B2, HINV.out⟩ ?_ ?_
  · clear HINV
    rintro i a w' hi' ⟨hU, own', A1, A2', hinv⟩
    obtain ⟨U, rfl⟩ := hU.out
    obtain ⟨q', c', e', -, hr⟩ := HS.out.below hinv.bel
    simp only [Value.slice.injEq] at e'
    obtain ⟨rfl, -, rfl⟩ := e'
    obtain ⟨o, ho⟩ : ∃ o, ops[i]? = some o := ⟨_, List.getElem?_eq_getElem (by rw [← HM.out]; exact hi')⟩
    obtain ⟨g, off, rfl, hg, hoo, hrg⟩ := hr i o ho
    have hob : ∀ w6, Below w0.heap.size w0 w6 → Tz w6 ∧ OkOp w6 o := fun w6 h6 => by
      obtain ⟨q2, c2, e2, -, hr2⟩ := HS.out.below h6
      obtain ⟨_, _, _, _, ho2, _⟩ := hr2 i o ho
      exact ⟨HT.out.below h6, ho2⟩
    have hw0 : o.words ≠ [] → ∀ g0, o.wv.ownBlock = some g0 → g0 < w0.heap.size := fun hne => by
      have h1 := (hob w0 (Below.refl _ _)).2.words
      exact h1.block hne
    have hiM : (i : Int) < (M : Int) := by exact_mod_cast hi'
    have hi0 : (0 : Int) ≤ (i : Int) := Int.natCast_nonneg i
    have hM9 : (M : Int) ≤ 1256584717715 := by omega
    have hnb : 4 + 4 * i + 8 ≤ 5864062014805 := by omega
    have hltA : ∀ k, own' k ∨ A1 k ∨ A2' k → k < w'.heap.size := fun k e => by
      rcases e with e | e | e
      · exact hinv.bk.lt k e
      · exact hinv.p1.lt k e
      · exact hinv.p2.lt k e
    have HOB := Lib.hid hob
    have HW0 := Lib.hid hw0
    have HNB := Lib.hid hnb
    have HINV := Lib.hid hinv
    have HLT := Lib.hid hltA
    clear hU hr ho hob hw0 hnb hinv hltA hsl
    go_upto_region 9 with fail
    rename_i hnext
    refine wp_region_lit ?_
    refine Og.st_start (n := 112) rfl fun a hF => ?_
    refine Og.st_same (.slice (some ⟨g, off, none⟩) M c) hF rfl rfl (by decide) (by kernel_rfl) ?_
    clear hF a; intro a hF
    refine Og.st_same (.int .i64 i) hF rfl rfl (by decide) (by kernel_rfl) ?_
    clear hF a; intro a hF
    refine Og.st_same (.pointer (some ⟨g, off + i * 8, none⟩)) hF rfl rfl (by decide) (exec_idx rfl (show (Instr.indexAt 49 (.slice (some ⟨g, off, none⟩) M c) (.int .i64 i)).run Tryd.prog w' = _ from idx_op w' g off M c i hi')) ?_
    clear hF a; intro a hF
    refine Og.st_same (.agg (opL o).toArray) hF rfl rfl (by decide) (Og.exec_load rfl (load_op hrg)) ?_
    clear hF a; intro a hF
    refine Og.st_val (w' := w'.alloc (.cells opZ.toArray 39)) (.pointer (some ⟨w'.heap.size, 0, none⟩)) hF rfl rfl (by decide) (alloc_op rfl w') ?_
    clear hF a; intro a hF
    refine Og.st_skip (w' := (w'.alloc (.cells opZ.toArray 39)).setCells w'.heap.size 0 (opL o)) hF rfl rfl
      (exec_store (o := 0) (vs := opL o) (cs := opZ) rfl rfl rfl (heap_new _ _ _ rfl) (Nat.le_refl 8) opi (opL_one hoo)) ?_
    clear hF a; intro a hF
    obtain ⟨w4, hw4, hrw4, hb4⟩ := op_copy hoo
    rw [← hw4]
    obtain ⟨A, hA⟩ : ∃ A, A = w'.heap.size := ⟨_, rfl⟩
    rw [← hA] at hF hrw4
    refine wpList_nil ?_
    obtain ⟨U, rfl⟩ := Og.Fr.lit_ex hF (fun U => ⟨#[U 0, U 1, .slice (some ⟨g, off, none⟩) M c, .int .i64 lo, .int .i64 hi, .pointer (some ⟨b, 0, none⟩), U 6, U 7, U 8, U 9, U 10, U 11, .bool false, .bool late, .pointer (some ⟨P1, 0, none⟩), U 15, .pointer (some ⟨P2, 0, none⟩), U 17, .int .i64 i, .pointer (some ⟨A, 0, none⟩), U 20, U 21, U 22, U 23, U 24, U 25, U 26, U 27, U 28, U 29, U 30, U 31, U 32, U 33, U 34, U 35, U 36, U 37, U 38, U 39, U 40, U 41, U 42, U 43, U 44, U 45, U 46, U 47, U 48, U 49, U 50, U 51, U 52, U 53, U 54, U 55, U 56, U 57, U 58, U 59, U 60, U 61, U 62, U 63, U 64, U 65, U 66, U 67, U 68, U 69, U 70, U 71, U 72, U 73, U 74, U 75, U 76, U 77, U 78, U 79, U 80, U 81, U 82, U 83, U 84, U 85, U 86, U 87, U 88, U 89, U 90, U 91, U 92, U 93, U 94, U 95, U 96, U 97, U 98, U 99, U 100, U 101, U 102, U 103, U 104, U 105, U 106, U 107, U 108, U 109, U 110, U 111], []⟩) (by kernel_rfl)
    clear hF
    refine hnext _ _ ?_
    clear hnext
    have ck := hrw4.cell (i := 0) (v := .int .i64 o.kind) rfl
    have cs := hrw4.cell (i := 1) (v := .bool o.second) rfl
    have ca := hrw4.cell (i := 2) (v := .int .i64 o.a) rfl
    have cb := hrw4.cell (i := 3) (v := .int .i64 o.b) rfl
    have cv := hrw4.cell (i := 4) (v := o.wv) rfl
    have cbv := hrw4.cell (i := 5) (v := o.bv) rfl
    have cav := hrw4.cell (i := 6) (v := o.av) rfl
    have cag := hrw4.cell (i := 7) (v := .bool o.again) rfl
    have lA := heap_lt hrw4
    have HIN := Lib.hid (HINV.out.below hb4)
    have HRW := Lib.hid hrw4
    have HAN : Hid (¬ (own' A ∨ A1 A ∨ A2' A)) := Lib.hid (fun e => by have := HLT.out A e; omega)
    have HTI := Lib.hid (HOB.out _ HIN.out.bel).1
    have HOI := Lib.hid (HOB.out _ HIN.out.bel).2
    clear hoo hrg hg hi' hb4 hrw4 hA hw4 HINV HLT
    cases hsec : o.second
    · rw [hsec] at cs
      have hsd := HIN.out
      rcases hsd.p1 with ⟨hnil, -⟩ | ⟨p, bw, ba, r, bb, n, W, hpr, hA⟩
      · have cp0 := hnil.cell (i := 0) rfl
        clear hsd hnil
        go_upto_region 13 with fail
        clear ck ca cb cs cv cbv cav cag
        have HKP := Lib.hid (HIN.out.bk.kept (by have := HNB.out; omega))
        go_wp2_with fail
        exact ⟨isU (fun U => ⟨#[U 0, U 1, .slice (some ⟨g, off, none⟩) M c, .int .i64 lo, .int .i64 hi, .pointer (some ⟨b, 0, none⟩), U 6, U 7, U 8, U 9, U 10, U 11, .bool false, .bool late, .pointer (some ⟨P1, 0, none⟩), U 15, .pointer (some ⟨P2, 0, none⟩), U 17, .int .i64 (i + 1 : Nat), U 19, U 20, U 21, U 22, U 23, U 24, U 25, U 26, U 27, U 28, U 29, U 30, U 31, U 32, U 33, U 34, U 35, U 36, U 37, U 38, U 39, U 40, U 41, U 42, U 43, U 44, U 45, U 46, U 47, U 48, U 49, U 50, U 51, U 52, U 53, U 54, U 55, U 56, U 57, U 58, U 59, U 60, U 61, U 62, U 63, U 64, U 65, U 66, U 67, U 68, U 69, U 70, U 71, U 72, U 73, U 74, U 75, U 76, U 77, U 78, U 79, U 80, U 81, U 82, U 83, U 84, U 85, U 86, U 87, U 88, U 89, U 90, U 91, U 92, U 93, U 94, U 95, U 96, U 97, U 98, U 99, U 100, U 101, U 102, U 103, U 104, U 105, U 106, U 107, U 108, U 109, U 110, U 111], []⟩) rfl, _, _, _, HIN.out.more (by omega)⟩
      · have hpb := hsd.prb hpr hA
        have cp0 := hpr.hP.cell (i := 0) rfl
        have lx := heap_lt hpr.hP
        have HC1 := Lib.hid (step_calls (keepC_any late) (by have := HNB.out; omega) hpb HTI.out HOI.out (fun hne g0 e0 e1 => by have h1 := HW0.out hne g0 e0; have h2 := hsd.hi g0 (.inr (.inl ((hA g0).2 e1))); omega))
        have HSD := Lib.hid hsd
        have HA := Lib.hid hA
        rw [show (opL o).toArray = #[.int .i64 o.kind, .bool o.second, .int .i64 o.a, .int .i64 o.b, o.wv, o.bv, o.av, .bool o.again] from rfl, hsec] at HC1
        clear hsd hpr hA hpb
        go_upto_region 15 with (first
          | (go_at_call 42
             refine HC1.out.mono ?_
             clear HC1
             rintro e w5 hch
             have he := hch.1
             subst he
             obtain ⟨own5, hinv5, hm5, W5, hpr5⟩ := HSD.out.chg HA.out hch
             have hrw5 := HRW.out.mod hm5 (fun e => HAN.out (e.elim .inl fun e => .inr (.inl e)))
             have HI5 := Lib.hid hinv5
             have HRW5 := Lib.hid hrw5
             have HPR5 := Lib.hid hpr5
             clear hch hinv5 hm5 hrw5 hpr5)
          | fail)
        clear ck ca cb cs cv cbv cav cag
        have ck := HRW5.out.cell (i := 0) (v := .int .i64 o.kind) rfl
        cases late
        · go_upto_region 18 with fail
          clear ck
          have HKP := Lib.hid (HI5.out.bk.kept (by have := HNB.out; omega))
          go_wp2_with (first
            | (go_at_call 24
               refine HKP.out.out.mono ?_
               rintro e w9 ⟨rfl, hb9⟩
               have HB9 := Lib.hid hb9
               clear hb9)
            | fail)
          exact ⟨isU (fun U => ⟨#[U 0, U 1, .slice (some ⟨g, off, none⟩) M c, .int .i64 lo, .int .i64 hi, .pointer (some ⟨b, 0, none⟩), U 6, U 7, U 8, U 9, U 10, U 11, .bool false, .bool false, .pointer (some ⟨P1, 0, none⟩), U 15, .pointer (some ⟨P2, 0, none⟩), U 17, .int .i64 (i + 1 : Nat), U 19, U 20, U 21, U 22, U 23, U 24, U 25, U 26, U 27, U 28, U 29, U 30, U 31, U 32, U 33, U 34, U 35, U 36, U 37, U 38, U 39, U 40, U 41, U 42, U 43, U 44, U 45, U 46, U 47, U 48, U 49, U 50, U 51, U 52, U 53, U 54, U 55, U 56, U 57, U 58, U 59, U 60, U 61, U 62, U 63, U 64, U 65, U 66, U 67, U 68, U 69, U 70, U 71, U 72, U 73, U 74, U 75, U 76, U 77, U 78, U 79, U 80, U 81, U 82, U 83, U 84, U 85, U 86, U 87, U 88, U 89, U 90, U 91, U 92, U 93, U 94, U 95, U 96, U 97, U 98, U 99, U 100, U 101, U 102, U 103, U 104, U 105, U 106, U 107, U 108, U 109, U 110, U 111], []⟩) rfl, _, _, _, ((HI5.out.below HB9.out).more (by omega))⟩
        · have hok : True := trivial
          cases z12 : (o.kind == 12)
          · cases z13 : (o.kind == 13)
            · go_upto_region 18 with fail
              clear ck
              have HKP := Lib.hid (HI5.out.bk.kept (by have := HNB.out; omega))
              go_wp2_with (first
                | (go_at_call 24
                   refine HKP.out.out.mono ?_
                   rintro e w9 ⟨rfl, hb9⟩
                   have HB9 := Lib.hid hb9
                   clear hb9)
                | fail)
              exact ⟨isU (fun U => ⟨#[U 0, U 1, .slice (some ⟨g, off, none⟩) M c, .int .i64 lo, .int .i64 hi, .pointer (some ⟨b, 0, none⟩), U 6, U 7, U 8, U 9, U 10, U 11, .bool false, .bool true, .pointer (some ⟨P1, 0, none⟩), U 15, .pointer (some ⟨P2, 0, none⟩), U 17, .int .i64 (i + 1 : Nat), U 19, U 20, U 21, U 22, U 23, U 24, U 25, U 26, U 27, U 28, U 29, U 30, U 31, U 32, U 33, U 34, U 35, U 36, U 37, U 38, U 39, U 40, U 41, U 42, U 43, U 44, U 45, U 46, U 47, U 48, U 49, U 50, U 51, U 52, U 53, U 54, U 55, U 56, U 57, U 58, U 59, U 60, U 61, U 62, U 63, U 64, U 65, U 66, U 67, U 68, U 69, U 70, U 71, U 72, U 73, U 74, U 75, U 76, U 77, U 78, U 79, U 80, U 81, U 82, U 83, U 84, U 85, U 86, U 87, U 88, U 89, U 90, U 91, U 92, U 93, U 94, U 95, U 96, U 97, U 98, U 99, U 100, U 101, U 102, U 103, U 104, U 105, U 106, U 107, U 108, U 109, U 110, U 111], []⟩) rfl, _, _, _, ((HI5.out.below HB9.out).more (by omega))⟩
            · have cs := HRW5.out.cell (i := 1) (v := .bool o.second) rfl
              rw [hsec] at cs
              have ca := HRW5.out.cell (i := 2) (v := .int .i64 o.a) rfl
              have cb := HRW5.out.cell (i := 3) (v := .int .i64 o.b) rfl
              have cv := HRW5.out.cell (i := 4) (v := o.wv) rfl
              have cbv := HRW5.out.cell (i := 5) (v := o.bv) rfl
              have cav := HRW5.out.cell (i := 6) (v := o.av) rfl
              have cag := HRW5.out.cell (i := 7) (v := .bool o.again) rfl
              have HC2 := Lib.hid (step_calls (keepC_any true) (by have := HNB.out; omega) (HI5.out.prb HPR5.out HA.out) (HOB.out _ HI5.out.bel).1 (HOB.out _ HI5.out.bel).2 (fun hne g0 e0 e1 => by have h1 := HW0.out hne g0 e0; have h2 := HI5.out.hi g0 (.inr (.inl ((HA.out g0).2 e1))); omega))
              rw [show (opL o).toArray = #[.int .i64 o.kind, .bool o.second, .int .i64 o.a, .int .i64 o.b, o.wv, o.bv, o.av, .bool o.again] from rfl, hsec] at HC2
              go_upto_region 18 with (first
                | (go_at_call 42
                   refine HC2.out.mono ?_
                   clear HC2
                   rintro e w7 hch
                   have he := hch.1
                   subst he
                   obtain ⟨own7, hinv7, -⟩ := HI5.out.chg HA.out hch
                   have HI7 := Lib.hid hinv7
                   clear hch hinv7)
                | fail)
              clear ck cs ca cb cv cbv cav cag
              have HKP := Lib.hid (HI7.out.bk.kept (by have := HNB.out; omega))
              go_wp2_with (first
                | (go_at_call 24
                   refine HKP.out.out.mono ?_
                   rintro e w9 ⟨rfl, hb9⟩
                   have HB9 := Lib.hid hb9
                   clear hb9)
                | fail)
              exact ⟨isU (fun U => ⟨#[U 0, U 1, .slice (some ⟨g, off, none⟩) M c, .int .i64 lo, .int .i64 hi, .pointer (some ⟨b, 0, none⟩), U 6, U 7, U 8, U 9, U 10, U 11, .bool false, .bool true, .pointer (some ⟨P1, 0, none⟩), U 15, .pointer (some ⟨P2, 0, none⟩), U 17, .int .i64 (i + 1 : Nat), U 19, U 20, U 21, U 22, U 23, U 24, U 25, U 26, U 27, U 28, U 29, U 30, U 31, U 32, U 33, U 34, U 35, U 36, U 37, U 38, U 39, U 40, U 41, U 42, U 43, U 44, U 45, U 46, U 47, U 48, U 49, U 50, U 51, U 52, U 53, U 54, U 55, U 56, U 57, U 58, U 59, U 60, U 61, U 62, U 63, U 64, U 65, U 66, U 67, U 68, U 69, U 70, U 71, U 72, U 73, U 74, U 75, U 76, U 77, U 78, U 79, U 80, U 81, U 82, U 83, U 84, U 85, U 86, U 87, U 88, U 89, U 90, U 91, U 92, U 93, U 94, U 95, U 96, U 97, U 98, U 99, U 100, U 101, U 102, U 103, U 104, U 105, U 106, U 107, U 108, U 109, U 110, U 111], []⟩) rfl, _, _, _, ((HI7.out.below HB9.out).more (by omega))⟩
          · have cs := HRW5.out.cell (i := 1) (v := .bool o.second) rfl
            rw [hsec] at cs
            have ca := HRW5.out.cell (i := 2) (v := .int .i64 o.a) rfl
            have cb := HRW5.out.cell (i := 3) (v := .int .i64 o.b) rfl
            have cv := HRW5.out.cell (i := 4) (v := o.wv) rfl
            have cbv := HRW5.out.cell (i := 5) (v := o.bv) rfl
            have cav := HRW5.out.cell (i := 6) (v := o.av) rfl
            have cag := HRW5.out.cell (i := 7) (v := .bool o.again) rfl
            have HC2 := Lib.hid (step_calls (keepC_any true) (by have := HNB.out; omega) (HI5.out.prb HPR5.out HA.out) (HOB.out _ HI5.out.bel).1 (HOB.out _ HI5.out.bel).2 (fun hne g0 e0 e1 => by have h1 := HW0.out hne g0 e0; have h2 := HI5.out.hi g0 (.inr (.inl ((HA.out g0).2 e1))); omega))
            rw [show (opL o).toArray = #[.int .i64 o.kind, .bool o.second, .int .i64 o.a, .int .i64 o.b, o.wv, o.bv, o.av, .bool o.again] from rfl, hsec] at HC2
            go_upto_region 18 with (first
              | (go_at_call 42
                 refine HC2.out.mono ?_
                 clear HC2
                 rintro e w7 hch
                 have he := hch.1
                 subst he
                 obtain ⟨own7, hinv7, -⟩ := HI5.out.chg HA.out hch
                 have HI7 := Lib.hid hinv7
                 clear hch hinv7)
              | fail)
            clear ck cs ca cb cv cbv cav cag
            have HKP := Lib.hid (HI7.out.bk.kept (by have := HNB.out; omega))
            go_wp2_with (first
              | (go_at_call 24
                 refine HKP.out.out.mono ?_
                 rintro e w9 ⟨rfl, hb9⟩
                 have HB9 := Lib.hid hb9
                 clear hb9)
              | fail)
            exact ⟨isU (fun U => ⟨#[U 0, U 1, .slice (some ⟨g, off, none⟩) M c, .int .i64 lo, .int .i64 hi, .pointer (some ⟨b, 0, none⟩), U 6, U 7, U 8, U 9, U 10, U 11, .bool false, .bool true, .pointer (some ⟨P1, 0, none⟩), U 15, .pointer (some ⟨P2, 0, none⟩), U 17, .int .i64 (i + 1 : Nat), U 19, U 20, U 21, U 22, U 23, U 24, U 25, U 26, U 27, U 28, U 29, U 30, U 31, U 32, U 33, U 34, U 35, U 36, U 37, U 38, U 39, U 40, U 41, U 42, U 43, U 44, U 45, U 46, U 47, U 48, U 49, U 50, U 51, U 52, U 53, U 54, U 55, U 56, U 57, U 58, U 59, U 60, U 61, U 62, U 63, U 64, U 65, U 66, U 67, U 68, U 69, U 70, U 71, U 72, U 73, U 74, U 75, U 76, U 77, U 78, U 79, U 80, U 81, U 82, U 83, U 84, U 85, U 86, U 87, U 88, U 89, U 90, U 91, U 92, U 93, U 94, U 95, U 96, U 97, U 98, U 99, U 100, U 101, U 102, U 103, U 104, U 105, U 106, U 107, U 108, U 109, U 110, U 111], []⟩) rfl, _, _, _, ((HI7.out.below HB9.out).more (by omega))⟩
    · rw [hsec] at cs
      have hsd := HIN.out.swap
      rcases hsd.p1 with ⟨hnil, -⟩ | ⟨p, bw, ba, r, bb, n, W, hpr, hA⟩
      · have cp0 := hnil.cell (i := 0) rfl
        clear hsd hnil
        go_upto_region 13 with fail
        clear ck ca cb cs cv cbv cav cag
        have HKP := Lib.hid (HIN.out.bk.kept (by have := HNB.out; omega))
        go_wp2_with fail
        exact ⟨isU (fun U => ⟨#[U 0, U 1, .slice (some ⟨g, off, none⟩) M c, .int .i64 lo, .int .i64 hi, .pointer (some ⟨b, 0, none⟩), U 6, U 7, U 8, U 9, U 10, U 11, .bool false, .bool late, .pointer (some ⟨P1, 0, none⟩), U 15, .pointer (some ⟨P2, 0, none⟩), U 17, .int .i64 (i + 1 : Nat), U 19, U 20, U 21, U 22, U 23, U 24, U 25, U 26, U 27, U 28, U 29, U 30, U 31, U 32, U 33, U 34, U 35, U 36, U 37, U 38, U 39, U 40, U 41, U 42, U 43, U 44, U 45, U 46, U 47, U 48, U 49, U 50, U 51, U 52, U 53, U 54, U 55, U 56, U 57, U 58, U 59, U 60, U 61, U 62, U 63, U 64, U 65, U 66, U 67, U 68, U 69, U 70, U 71, U 72, U 73, U 74, U 75, U 76, U 77, U 78, U 79, U 80, U 81, U 82, U 83, U 84, U 85, U 86, U 87, U 88, U 89, U 90, U 91, U 92, U 93, U 94, U 95, U 96, U 97, U 98, U 99, U 100, U 101, U 102, U 103, U 104, U 105, U 106, U 107, U 108, U 109, U 110, U 111], []⟩) rfl, _, _, _, HIN.out.more (by omega)⟩
      · have hpb := hsd.prb hpr hA
        have cp0 := hpr.hP.cell (i := 0) rfl
        have lx := heap_lt hpr.hP
        have HC1 := Lib.hid (step_calls (keepC_any late) (by have := HNB.out; omega) hpb HTI.out HOI.out (fun hne g0 e0 e1 => by have h1 := HW0.out hne g0 e0; have h2 := hsd.hi g0 (.inr (.inl ((hA g0).2 e1))); omega))
        have HSD := Lib.hid hsd
        have HA := Lib.hid hA
        rw [show (opL o).toArray = #[.int .i64 o.kind, .bool o.second, .int .i64 o.a, .int .i64 o.b, o.wv, o.bv, o.av, .bool o.again] from rfl, hsec] at HC1
        clear hsd hpr hA hpb
        go_upto_region 15 with (first
          | (go_at_call 42
             refine HC1.out.mono ?_
             clear HC1
             rintro e w5 hch
             have he := hch.1
             subst he
             obtain ⟨own5, hinv5, hm5, W5, hpr5⟩ := HSD.out.chg HA.out hch
             have hrw5 := HRW.out.mod hm5 (fun e => HAN.out (e.elim .inl fun e => .inr (.inr e)))
             have HI5 := Lib.hid hinv5
             have HRW5 := Lib.hid hrw5
             have HPR5 := Lib.hid hpr5
             clear hch hinv5 hm5 hrw5 hpr5)
          | fail)
        clear ck ca cb cs cv cbv cav cag
        have ck := HRW5.out.cell (i := 0) (v := .int .i64 o.kind) rfl
        cases late
        · go_upto_region 18 with fail
          clear ck
          have HKP := Lib.hid (HI5.out.bk.kept (by have := HNB.out; omega))
          go_wp2_with (first
            | (go_at_call 24
               refine HKP.out.out.mono ?_
               rintro e w9 ⟨rfl, hb9⟩
               have HB9 := Lib.hid hb9
               clear hb9)
            | fail)
          exact ⟨isU (fun U => ⟨#[U 0, U 1, .slice (some ⟨g, off, none⟩) M c, .int .i64 lo, .int .i64 hi, .pointer (some ⟨b, 0, none⟩), U 6, U 7, U 8, U 9, U 10, U 11, .bool false, .bool false, .pointer (some ⟨P1, 0, none⟩), U 15, .pointer (some ⟨P2, 0, none⟩), U 17, .int .i64 (i + 1 : Nat), U 19, U 20, U 21, U 22, U 23, U 24, U 25, U 26, U 27, U 28, U 29, U 30, U 31, U 32, U 33, U 34, U 35, U 36, U 37, U 38, U 39, U 40, U 41, U 42, U 43, U 44, U 45, U 46, U 47, U 48, U 49, U 50, U 51, U 52, U 53, U 54, U 55, U 56, U 57, U 58, U 59, U 60, U 61, U 62, U 63, U 64, U 65, U 66, U 67, U 68, U 69, U 70, U 71, U 72, U 73, U 74, U 75, U 76, U 77, U 78, U 79, U 80, U 81, U 82, U 83, U 84, U 85, U 86, U 87, U 88, U 89, U 90, U 91, U 92, U 93, U 94, U 95, U 96, U 97, U 98, U 99, U 100, U 101, U 102, U 103, U 104, U 105, U 106, U 107, U 108, U 109, U 110, U 111], []⟩) rfl, _, _, _, ((HI5.out.below HB9.out).more (by omega)).swap⟩
        · have hok : True := trivial
          cases z12 : (o.kind == 12)
          · cases z13 : (o.kind == 13)
            · go_upto_region 18 with fail
              clear ck
              have HKP := Lib.hid (HI5.out.bk.kept (by have := HNB.out; omega))
              go_wp2_with (first
                | (go_at_call 24
                   refine HKP.out.out.mono ?_
                   rintro e w9 ⟨rfl, hb9⟩
                   have HB9 := Lib.hid hb9
                   clear hb9)
                | fail)
              exact ⟨isU (fun U => ⟨#[U 0, U 1, .slice (some ⟨g, off, none⟩) M c, .int .i64 lo, .int .i64 hi, .pointer (some ⟨b, 0, none⟩), U 6, U 7, U 8, U 9, U 10, U 11, .bool false, .bool true, .pointer (some ⟨P1, 0, none⟩), U 15, .pointer (some ⟨P2, 0, none⟩), U 17, .int .i64 (i + 1 : Nat), U 19, U 20, U 21, U 22, U 23, U 24, U 25, U 26, U 27, U 28, U 29, U 30, U 31, U 32, U 33, U 34, U 35, U 36, U 37, U 38, U 39, U 40, U 41, U 42, U 43, U 44, U 45, U 46, U 47, U 48, U 49, U 50, U 51, U 52, U 53, U 54, U 55, U 56, U 57, U 58, U 59, U 60, U 61, U 62, U 63, U 64, U 65, U 66, U 67, U 68, U 69, U 70, U 71, U 72, U 73, U 74, U 75, U 76, U 77, U 78, U 79, U 80, U 81, U 82, U 83, U 84, U 85, U 86, U 87, U 88, U 89, U 90, U 91, U 92, U 93, U 94, U 95, U 96, U 97, U 98, U 99, U 100, U 101, U 102, U 103, U 104, U 105, U 106, U 107, U 108, U 109, U 110, U 111], []⟩) rfl, _, _, _, ((HI5.out.below HB9.out).more (by omega)).swap⟩
            · have cs := HRW5.out.cell (i := 1) (v := .bool o.second) rfl
              rw [hsec] at cs
              have ca := HRW5.out.cell (i := 2) (v := .int .i64 o.a) rfl
              have cb := HRW5.out.cell (i := 3) (v := .int .i64 o.b) rfl
              have cv := HRW5.out.cell (i := 4) (v := o.wv) rfl
              have cbv := HRW5.out.cell (i := 5) (v := o.bv) rfl
              have cav := HRW5.out.cell (i := 6) (v := o.av) rfl
              have cag := HRW5.out.cell (i := 7) (v := .bool o.again) rfl
              have HC2 := Lib.hid (step_calls (keepC_any true) (by have := HNB.out; omega) (HI5.out.prb HPR5.out HA.out) (HOB.out _ HI5.out.bel).1 (HOB.out _ HI5.out.bel).2 (fun hne g0 e0 e1 => by have h1 := HW0.out hne g0 e0; have h2 := HI5.out.hi g0 (.inr (.inl ((HA.out g0).2 e1))); omega))
              rw [show (opL o).toArray = #[.int .i64 o.kind, .bool o.second, .int .i64 o.a, .int .i64 o.b, o.wv, o.bv, o.av, .bool o.again] from rfl, hsec] at HC2
              go_upto_region 18 with (first
                | (go_at_call 42
                   refine HC2.out.mono ?_
                   clear HC2
                   rintro e w7 hch
                   have he := hch.1
                   subst he
                   obtain ⟨own7, hinv7, -⟩ := HI5.out.chg HA.out hch
                   have HI7 := Lib.hid hinv7
                   clear hch hinv7)
                | fail)
              clear ck cs ca cb cv cbv cav cag
              have HKP := Lib.hid (HI7.out.bk.kept (by have := HNB.out; omega))
              go_wp2_with (first
                | (go_at_call 24
                   refine HKP.out.out.mono ?_
                   rintro e w9 ⟨rfl, hb9⟩
                   have HB9 := Lib.hid hb9
                   clear hb9)
                | fail)
              exact ⟨isU (fun U => ⟨#[U 0, U 1, .slice (some ⟨g, off, none⟩) M c, .int .i64 lo, .int .i64 hi, .pointer (some ⟨b, 0, none⟩), U 6, U 7, U 8, U 9, U 10, U 11, .bool false, .bool true, .pointer (some ⟨P1, 0, none⟩), U 15, .pointer (some ⟨P2, 0, none⟩), U 17, .int .i64 (i + 1 : Nat), U 19, U 20, U 21, U 22, U 23, U 24, U 25, U 26, U 27, U 28, U 29, U 30, U 31, U 32, U 33, U 34, U 35, U 36, U 37, U 38, U 39, U 40, U 41, U 42, U 43, U 44, U 45, U 46, U 47, U 48, U 49, U 50, U 51, U 52, U 53, U 54, U 55, U 56, U 57, U 58, U 59, U 60, U 61, U 62, U 63, U 64, U 65, U 66, U 67, U 68, U 69, U 70, U 71, U 72, U 73, U 74, U 75, U 76, U 77, U 78, U 79, U 80, U 81, U 82, U 83, U 84, U 85, U 86, U 87, U 88, U 89, U 90, U 91, U 92, U 93, U 94, U 95, U 96, U 97, U 98, U 99, U 100, U 101, U 102, U 103, U 104, U 105, U 106, U 107, U 108, U 109, U 110, U 111], []⟩) rfl, _, _, _, ((HI7.out.below HB9.out).more (by omega)).swap⟩
          · have cs := HRW5.out.cell (i := 1) (v := .bool o.second) rfl
            rw [hsec] at cs
            have ca := HRW5.out.cell (i := 2) (v := .int .i64 o.a) rfl
            have cb := HRW5.out.cell (i := 3) (v := .int .i64 o.b) rfl
            have cv := HRW5.out.cell (i := 4) (v := o.wv) rfl
            have cbv := HRW5.out.cell (i := 5) (v := o.bv) rfl
            have cav := HRW5.out.cell (i := 6) (v := o.av) rfl
            have cag := HRW5.out.cell (i := 7) (v := .bool o.again) rfl
            have HC2 := Lib.hid (step_calls (keepC_any true) (by have := HNB.out; omega) (HI5.out.prb HPR5.out HA.out) (HOB.out _ HI5.out.bel).1 (HOB.out _ HI5.out.bel).2 (fun hne g0 e0 e1 => by have h1 := HW0.out hne g0 e0; have h2 := HI5.out.hi g0 (.inr (.inl ((HA.out g0).2 e1))); omega))
            rw [show (opL o).toArray = #[.int .i64 o.kind, .bool o.second, .int .i64 o.a, .int .i64 o.b, o.wv, o.bv, o.av, .bool o.again] from rfl, hsec] at HC2
            go_upto_region 18 with (first
              | (go_at_call 42
                 refine HC2.out.mono ?_
                 clear HC2
                 rintro e w7 hch
                 have he := hch.1
                 subst he
                 obtain ⟨own7, hinv7, -⟩ := HI5.out.chg HA.out hch
                 have HI7 := Lib.hid hinv7
                 clear hch hinv7)
              | fail)
            clear ck cs ca cb cv cbv cav cag
            have HKP := Lib.hid (HI7.out.bk.kept (by have := HNB.out; omega))
            go_wp2_with (first
              | (go_at_call 24
                 refine HKP.out.out.mono ?_
                 rintro e w9 ⟨rfl, hb9⟩
                 have HB9 := Lib.hid hb9
                 clear hb9)
              | fail)
            exact ⟨isU (fun U => ⟨#[U 0, U 1, .slice (some ⟨g, off, none⟩) M c, .int .i64 lo, .int .i64 hi, .pointer (some ⟨b, 0, none⟩), U 6, U 7, U 8, U 9, U 10, U 11, .bool false, .bool true, .pointer (some ⟨P1, 0, none⟩), U 15, .pointer (some ⟨P2, 0, none⟩), U 17, .int .i64 (i + 1 : Nat), U 19, U 20, U 21, U 22, U 23, U 24, U 25, U 26, U 27, U 28, U 29, U 30, U 31, U 32, U 33, U 34, U 35, U 36, U 37, U 38, U 39, U 40, U 41, U 42, U 43, U 44, U 45, U 46, U 47, U 48, U 49, U 50, U 51, U 52, U 53, U 54, U 55, U 56, U 57, U 58, U 59, U 60, U 61, U 62, U 63, U 64, U 65, U 66, U 67, U 68, U 69, U 70, U 71, U 72, U 73, U 74, U 75, U 76, U 77, U 78, U 79, U 80, U 81, U 82, U 83, U 84, U 85, U 86, U 87, U 88, U 89, U 90, U 91, U 92, U 93, U 94, U 95, U 96, U 97, U 98, U 99, U 100, U 101, U 102, U 103, U 104, U 105, U 106, U 107, U 108, U 109, U 110, U 111], []⟩) rfl, _, _, _, ((HI7.out.below HB9.out).more (by omega)).swap⟩
  · clear HINV
    rintro a w' ⟨hU, own', A1, A2', hinv⟩
    obtain ⟨U, rfl⟩ := hU.out
    have HINV := Lib.hid hinv
    clear hU hinv
    cases late
    · go_wp2_with fail
      go_ret
      exact ⟨rfl, HINV.out.bel⟩
    · have HST := Lib.hid (HINV.out.bk.settled (by omega))
      go_wp2_with (first
        | (go_at_call 97
           refine HST.out.mono ?_
           rintro e w9 ⟨rfl, hm9⟩
           have HM9 := Lib.hid hm9
           clear hm9)
        | fail)
      go_ret
      exact ⟨rfl, HINV.out.bel.trans (HM9.out.below HINV.out.bel.size fun k e => HINV.out.hi k (.inl e))⟩
end Go.Proofs.YtckbckdaffdjmaaDoor

/- A script played twice: at once, and late; the three statements. -/
namespace Go.Proofs.YtckbckdaffdjmaaDoor
open Go.RowKit
set_option maxRecDepth 100000
set_option linter.unusedVariables false
set_option linter.unusedSimpArgs false

section
variable {w : World} {sv : Value} {ops : List OpV} {f1 f2 : Bool} {n1 n2 : Int} {x1 x2 : Value} {V1 V2 : List UInt64}
set_option maxHeartbeats 16000000 in
theorem play_calls (hs : SlOp w sv ops) (hT : Tz w) (hn1 : (Lit.int .i64 n1).wf = true) (hn2 : (Lit.int .i64 n2).wf = true) (hx1 : RU w x1 V1) (hx2 : RU w x2 V2) (hV1 : V1.length + 80 ≤ 17592186044416) (hV2 : V2.length + 80 ≤ 17592186044416) (lo hi : Int) :
    Pur Tryd.prog 37 #[.agg #[.bool f1, .int .i64 n1, x1], .agg #[.bool f2, .int .i64 n2, x2], sv, .int .i64 lo, .int .i64 hi] w (.bool true) := by
  unfold Pur
  obtain ⟨w1, A1, A2, hw1, hA1, hA2, hr1, hr2, hb1, hl2⟩ := boxed2 w [.bool f1, .int .i64 n1, x1] [.bool f2, .int .i64 n2, x2] 24
  have hp : ∀ wa, Below w1.heap.size w1 wa → ∀ late, Calls Tryd.prog 72 #[.agg #[.bool f1, .int .i64 n1, x1], .agg #[.bool f2, .int .i64 n2, x2], sv, .int .i64 lo, .int .i64 hi, .pointer (some ⟨wa.heap.size, 0, none⟩)] (wa.alloc (.cells #[.slice none 0 0, .bool late, .slice none 0 0, .slice none 0 0] 31)) fun e w' => e = .returned (.bool true) ∧ Below w1.heap.size w1 w' := fun wa ha late =>
    pass_calls (w0 := w1) (own := fun k => k = wa.heap.size) (ha.trans ((below_alloc1 wa _).mono ha.size)) (Bok.new (heap_new _ _ _ rfl)) (fun k e => by rw [e]; exact ha.size) (hs.below hb1) (hT.below hb1) hn1 hn2 (hx1.below hb1) (hx2.below hb1) hV1 hV2 lo hi
  have HP := Lib.hid hp
  have HB1 := Lib.hid hb1
  have l1 := heap_lt hr1
  have d0 := hr1.cell (i := 0) rfl
  have d1 := hr1.cell (i := 1) rfl
  have d2 := hr1.cell (i := 2) rfl
  have g0 := hr2.cell (i := 0) rfl
  have g1 := hr2.cell (i := 1) rfl
  have g2 := hr2.cell (i := 2) rfl
  obtain ⟨px1, cx1, e1⟩ := hx1.form
  obtain ⟨px2, cx2, e2⟩ := hx2.form
  obtain ⟨q, c, hse, -, -⟩ := hs
  generalize V1.length = L1 at e1
  generalize V2.length = L2 at e2
  generalize ops.length = M at hse
  subst e1 e2 hse
  clear hp hb1 hr1 hr2 hx1 hx2 hn1 hn2 hV1 hV2 hT
  go_enter Tryd.func37, Tryd.ntmps37
  go_upto_region 1 with fail
  rw [show (w.alloc (.cells #[.bool f1, .int .i64 n1, .slice px1 L1 cx1] 24)).alloc (.cells #[.bool f2, .int .i64 n2, .slice px2 L2 cx2] 24) = w1 from hw1.symm, ← hA2, ← hA1]
  clear hw1 hA1 hA2
  have HPa := Lib.hid (HP.out w1 (Below.refl _ _) false)
  go_wp2_with (first
    | (go_at_call 72
       refine HPa.out.mono ?_
       clear HPa
       rintro e w3 ⟨rfl, hb3⟩
       have k0 := ((bcell hb3).1 A1 0 l1).trans d0
       have k1 := ((bcell hb3).1 A1 1 l1).trans d1
       have k2 := ((bcell hb3).1 A1 2 l1).trans d2
       have m0 := ((bcell hb3).1 A2 0 hl2).trans g0
       have m1 := ((bcell hb3).1 A2 1 hl2).trans g1
       have m2 := ((bcell hb3).1 A2 2 hl2).trans g2
       have HPb := Lib.hid (HP.out w3 hb3 true)
       clear hb3 d0 d1 d2 g0 g1 g2)
    | (go_at_call 72
       refine HPb.out.mono ?_
       clear HPb
       rintro e w4 ⟨rfl, hb4⟩
       have HB4 := Lib.hid hb4
       clear hb4)
    | fail)
  go_ret
  exact ⟨rfl, HB1.out.trans (HB4.out.mono HB1.out.size)⟩
set_option maxHeartbeats 8000000 in
theorem sets_calls (hs : SlOp w sv ops) (hT : Tz w) (hn1 : (Lit.int .i64 n1).wf = true) (hn2 : (Lit.int .i64 n2).wf = true) (hx1 : RU w x1 V1) (hx2 : RU w x2 V2) (hV1 : V1.length ≤ 17592186043904) (hV2 : V2.length ≤ 17592186043904) :
    Pur Tryd.prog 6 #[.agg #[.bool f1, .int .i64 n1, x1], .agg #[.bool f2, .int .i64 n2, x2], sv] w (.bool true) := by
  unfold Pur
  obtain ⟨w1, A1, A2, hw1, hA1, hA2, hr1, hr2, hb1, hl2⟩ := boxed2 w [.bool f1, .int .i64 n1, x1] [.bool f2, .int .i64 n2, x2] 24
  have HP := Lib.hid (play_calls (f1 := f1) (f2 := f2) (hs.below hb1) (hT.below hb1) hn1 hn2 (hx1.below hb1) (hx2.below hb1) (by omega) (by omega) 1 5)
  have HB1 := Lib.hid hb1
  have l1 := heap_lt hr1
  have d0 := hr1.cell (i := 0) rfl
  have d1 := hr1.cell (i := 1) rfl
  have d2 := hr1.cell (i := 2) rfl
  have g0 := hr2.cell (i := 0) rfl
  have g1 := hr2.cell (i := 1) rfl
  have g2 := hr2.cell (i := 2) rfl
  obtain ⟨px1, cx1, e1⟩ := hx1.form
  obtain ⟨px2, cx2, e2⟩ := hx2.form
  obtain ⟨q, c, hse, -, -⟩ := hs
  generalize V1.length = L1 at e1
  generalize V2.length = L2 at e2
  generalize ops.length = M at hse
  subst e1 e2 hse
  clear hb1 hr1 hr2 hx1 hx2 hn1 hn2 hV1 hV2 hT
  go_enter Tryd.func6, Tryd.ntmps6
  go_upto_region 1 with fail
  rw [show (w.alloc (.cells #[.bool f1, .int .i64 n1, .slice px1 L1 cx1] 24)).alloc (.cells #[.bool f2, .int .i64 n2, .slice px2 L2 cx2] 24) = w1 from hw1.symm, ← hA2, ← hA1]
  clear hw1 hA1 hA2
  go_wp2_with (first
    | (go_at_call 37
       refine HP.out.out.mono ?_
       rintro e w3 ⟨rfl, hb3⟩)
    | fail)
  go_ret
  exact ⟨rfl, HB1.out.trans (hb3.mono HB1.out.size)⟩
set_option maxHeartbeats 8000000 in
theorem asks_calls (hs : SlOp w sv ops) (hT : Tz w) (hn1 : (Lit.int .i64 n1).wf = true) (hn2 : (Lit.int .i64 n2).wf = true) (hx1 : RU w x1 V1) (hx2 : RU w x2 V2) (hV1 : V1.length ≤ 17592186043904) (hV2 : V2.length ≤ 17592186043904) :
    Pur Tryd.prog 7 #[.agg #[.bool f1, .int .i64 n1, x1], .agg #[.bool f2, .int .i64 n2, x2], sv] w (.bool true) := by
  unfold Pur
  obtain ⟨w1, A1, A2, hw1, hA1, hA2, hr1, hr2, hb1, hl2⟩ := boxed2 w [.bool f1, .int .i64 n1, x1] [.bool f2, .int .i64 n2, x2] 24
  have HP := Lib.hid (play_calls (f1 := f1) (f2 := f2) (hs.below hb1) (hT.below hb1) hn1 hn2 (hx1.below hb1) (hx2.below hb1) (by omega) (by omega) 6 13)
  have HB1 := Lib.hid hb1
  have l1 := heap_lt hr1
  have d0 := hr1.cell (i := 0) rfl
  have d1 := hr1.cell (i := 1) rfl
  have d2 := hr1.cell (i := 2) rfl
  have g0 := hr2.cell (i := 0) rfl
  have g1 := hr2.cell (i := 1) rfl
  have g2 := hr2.cell (i := 2) rfl
  obtain ⟨px1, cx1, e1⟩ := hx1.form
  obtain ⟨px2, cx2, e2⟩ := hx2.form
  obtain ⟨q, c, hse, -, -⟩ := hs
  generalize V1.length = L1 at e1
  generalize V2.length = L2 at e2
  generalize ops.length = M at hse
  subst e1 e2 hse
  clear hb1 hr1 hr2 hx1 hx2 hn1 hn2 hV1 hV2 hT
  go_enter Tryd.func7, Tryd.ntmps7
  go_upto_region 1 with fail
  rw [show (w.alloc (.cells #[.bool f1, .int .i64 n1, .slice px1 L1 cx1] 24)).alloc (.cells #[.bool f2, .int .i64 n2, .slice px2 L2 cx2] 24) = w1 from hw1.symm, ← hA2, ← hA1]
  clear hw1 hA1 hA2
  go_wp2_with (first
    | (go_at_call 37
       refine HP.out.out.mono ?_
       rintro e w3 ⟨rfl, hb3⟩)
    | fail)
  go_ret
  exact ⟨rfl, HB1.out.trans (hb3.mono HB1.out.size)⟩
set_option maxHeartbeats 8000000 in
theorem exact_calls (hs : SlOp w sv ops) (hT : Tz w) (hn1 : (Lit.int .i64 n1).wf = true) (hn2 : (Lit.int .i64 n2).wf = true) (hx1 : RU w x1 V1) (hx2 : RU w x2 V2) (hV1 : V1.length ≤ 17592186043904) (hV2 : V2.length ≤ 17592186043904) :
    Pur Tryd.prog 8 #[.agg #[.bool f1, .int .i64 n1, x1], .agg #[.bool f2, .int .i64 n2, x2], sv] w (.bool true) := by
  unfold Pur
  obtain ⟨w1, A1, A2, hw1, hA1, hA2, hr1, hr2, hb1, hl2⟩ := boxed2 w [.bool f1, .int .i64 n1, x1] [.bool f2, .int .i64 n2, x2] 24
  have HP := Lib.hid (play_calls (f1 := f1) (f2 := f2) (hs.below hb1) (hT.below hb1) hn1 hn2 (hx1.below hb1) (hx2.below hb1) (by omega) (by omega) 1 13)
  have HB1 := Lib.hid hb1
  have l1 := heap_lt hr1
  have d0 := hr1.cell (i := 0) rfl
  have d1 := hr1.cell (i := 1) rfl
  have d2 := hr1.cell (i := 2) rfl
  have g0 := hr2.cell (i := 0) rfl
  have g1 := hr2.cell (i := 1) rfl
  have g2 := hr2.cell (i := 2) rfl
  obtain ⟨px1, cx1, e1⟩ := hx1.form
  obtain ⟨px2, cx2, e2⟩ := hx2.form
  obtain ⟨q, c, hse, -, -⟩ := hs
  generalize V1.length = L1 at e1
  generalize V2.length = L2 at e2
  generalize ops.length = M at hse
  subst e1 e2 hse
  clear hb1 hr1 hr2 hx1 hx2 hn1 hn2 hV1 hV2 hT
  go_enter Tryd.func8, Tryd.ntmps8
  go_upto_region 1 with fail
  rw [show (w.alloc (.cells #[.bool f1, .int .i64 n1, .slice px1 L1 cx1] 24)).alloc (.cells #[.bool f2, .int .i64 n2, .slice px2 L2 cx2] 24) = w1 from hw1.symm, ← hA2, ← hA1]
  clear hw1 hA1 hA2
  go_wp2_with (first
    | (go_at_call 37
       refine HP.out.out.mono ?_
       rintro e w3 ⟨rfl, hb3⟩)
    | fail)
  go_ret
  exact ⟨rfl, HB1.out.trans (hb3.mono HB1.out.size)⟩
end
end Go.Proofs.YtckbckdaffdjmaaDoor

/- The statement BitmapTwoLevels: the walk. -/
namespace Go.Proofs.YtckbckdaffdjmaaDoor
open Go.RowKit
set_option maxRecDepth 100000
set_option linter.unusedVariables false
set_option linter.unusedSimpArgs false

theorem shr_one {x r : Nat} (hx : x < 18446744073709551616) (h : x.testBit r = true) : (bits .and .u64 ((x : Int) / 2 ^ r) 1 != 1) = false := by
  have := shr_bit (r := r) hx
  rw [h] at this
  simp only [bne, this]; rfl
theorem shr_zero {x r : Nat} (hx : x < 18446744073709551616) (h : x.testBit r = false) : (bits .and .u64 ((x : Int) / 2 ^ r) 1 != 0) = false := by
  have h2 : x / 2 ^ r < 18446744073709551616 := Nat.lt_of_le_of_lt (Nat.div_le_self _ _) hx
  have h3 := u64_and_nat (x / 2 ^ r) 1 h2 (by decide)
  rw [Nat.and_one_is_mod] at h3
  rw [Nat.testBit_eq_decide_div_mod_eq] at h
  have h4 : x / 2 ^ r % 2 = 0 := by
    rcases Nat.mod_two_eq_zero_or_one (x / 2 ^ r) with e | e
    · exact e
    · rw [e] at h; cases h
  rw [h4] at h3
  rw [div_nat, show bits .and .u64 ((x / 2 ^ r : Nat) : Int) 1 = ((0 : Nat) : Int) from h3]; rfl
set_option maxHeartbeats 16000000 in
theorem twolevels_main {w : World} {n b f : Nat} {v sv : Value} {V : List UInt64} {ops : List OpV} (hok : Bm.Ok n V) (hv : RU w v V) (hs : SlOp w sv ops) (hT : Tz w) (hb : b < n) (hf : f < n) :
    Pur Tryd.prog 5 #[.int .i64 n, v, sv, .int .i64 b, .int .i64 f] w (.bool true) := by
  unfold Pur
  have hmx := hok.max
  have hpos := hok.pos
  have hli := lawlisted_calls (n := n) hv (wf_nat (by omega))
  rw [show Bm.listedB n V = true by unfold Bm.listedB; rw [decide_eq_true (by omega), Int.toNat_natCast, Bm.valid_of_ok hok]; rfl] at hli
  have HLI := Lib.hid hli
  have HOK := Lib.hid hok
  have HV := Lib.hid hv
  have HS := Lib.hid hs
  have HT := Lib.hid hT
  have HBN := Lib.hid hb
  have HFN := Lib.hid hf
  obtain ⟨vp, vc, hve⟩ := hv.form
  obtain ⟨sp, sc, hse, -, -⟩ := hs
  generalize V.length = VL at hve
  generalize ops.length = SL at hse
  subst hve hse
  have hn0 : (n : Int) ≤ 65536 := by omega
  have hb0 : (0 : Int) ≤ (b : Int) := Int.natCast_nonneg b
  have hf0 : (0 : Int) ≤ (f : Int) := Int.natCast_nonneg f
  have hb1 : (b : Int) < (n : Int) := by omega
  have hf1 : (f : Int) < (n : Int) := by omega
  clear hok hv hT hli hmx hpos hb hf
  go_enter Tryd.func5, Tryd.ntmps5
  go_upto_region 5 with (first
    | (go_at_call 26; refine HLI.out.out.mono ?_; clear HLI; rintro e w1 ⟨rfl, hbw⟩
       have hl := lawlay_calls HOK.out (HV.out.below hbw) (HS.out.below hbw)
       have HB1 := Lib.hid hbw
       have HL := Lib.hid hl
       clear hbw hl)
    | (go_at_call 27; refine HL.out.mono ?_; clear HL; rintro e w2 ⟨p, bw, ba, W1, rfl, hm, hp1, hp2, hp3, hbw⟩
       have HM2 := Lib.hid hm
       have HB2 : Hid (Below w.heap.size w w2) := Lib.hid (HB1.out.trans (hbw.mono HB1.out.size))
       have HP : Hid (∀ k, BM.At p bw ba k → w.heap.size ≤ k) := Lib.hid (by have := HB1.out.size; rintro k (rfl | rfl | rfl) <;> omega)
       clear hm hp1 hp2 hp3 hbw HB1)
    | fail)
  have hst := set_calls HM2.out HBN.out
  have HST := Lib.hid hst
  clear hst
  go_upto_region 8 with (first
    | (go_at_call 28; refine HST.out.mono ?_; clear HST; rintro e w3 ⟨rfl, hm, hmd⟩
       have HM3 := Lib.hid hm
       have HB3 : Hid (Below w.heap.size w w3) := Lib.hid (HB2.out.trans (hmd.below HB2.out.size HP.out))
       clear hm hmd)
    | fail)
  have hbit : Bm.bit (Bm.setW n W1 b (b + 1) true) b = true := by rw [Bm.setW_bit HM2.out.ok (by have := HBN.out; omega), if_pos (by omega)]
  obtain ⟨W2, hW2⟩ : ∃ W2, W2 = Bm.setW n W1 b (b + 1) true := ⟨_, rfl⟩
  rw [← hW2] at hbit HM3
  clear hW2
  have hte := test_calls HM3.out HBN.out
  rw [hbit] at hte
  have HTE := Lib.hid hte
  clear hte
  go_upto_region 9 with (first
    | (go_at_call 29; refine HTE.out.out.mono ?_; clear HTE; rintro e w4 ⟨rfl, hbw⟩
       have HM4 := Lib.hid (HM3.out.below hbw)
       have HB4 : Hid (Below w.heap.size w w4) := Lib.hid (HB3.out.trans (hbw.mono HB3.out.size))
       clear hbw)
    | fail)
  go_upto_region 10 with (first
    | (go_at_call 30; refine (levels_calls HM4.out).out.mono ?_; rintro e w5 ⟨rfl, hbw⟩
       have HM5 := Lib.hid (HM4.out.below hbw)
       have HB5 : Hid (Below w.heap.size w w5) := Lib.hid (HB4.out.trans (hbw.mono HB4.out.size))
       clear hbw)
    | fail)
  have hnx := next_calls HM5.out (HT.out.below HB5.out) (wf_nat (n := b) (by omega))
  rw [Int.toNat_natCast, ← (show Bm.IsFind (Bm.bit W2) n b (b : Int) from .inr ⟨b, rfl, Nat.le_refl _, HBN.out, hbit, fun t h1 h2 => by omega⟩).eq] at hnx
  have HNX := Lib.hid hnx
  clear hnx
  go_upto_region 11 with (first
    | (go_at_call 31; refine HNX.out.out.mono ?_; clear HNX; rintro e w6 ⟨rfl, hbw⟩
       have HM6 := Lib.hid (HM5.out.below hbw)
       have HB6 : Hid (Below w.heap.size w w6) := Lib.hid (HB5.out.trans (hbw.mono HB5.out.size))
       clear hbw)
    | fail)
  have HLN : Hid (W2.length = Bm.room n) := Lib.hid HM6.out.ok.len
  obtain ⟨x, hx⟩ : ∃ x, W2[b / 64]? = some x := ⟨_, List.getElem?_eq_getElem (by have := Bm.room_lt HBN.out; rw [HLN.out]; exact this)⟩
  have hxb : x.toNat.testBit (b % 64) = true := by rw [← hbit, Bm.bit, List.getD_eq_getElem?_getD, hx]; rfl
  have hx1 := shr_one x.toNat_lt hxb
  have hrl := HM6.out.room_le.1
  obtain ⟨R, hR⟩ : ∃ R, R = Bm.room n := ⟨_, rfl⟩
  have hq : b / 64 < R := by rw [hR]; exact Bm.room_lt HBN.out
  rw [← hR] at HLN hrl
  have hq0 : 0 ≤ (b : Int) / 64 := by omega
  have hq1 : (b : Int) / 64 < (R : Int) := by omega
  have hq2 : ((b : Int) / 64).toNat = b / 64 := by omega
  have HX := Lib.hid hx
  clear hx hxb hR hq hrl
  go_upto_region 12 with (first
    | (go_at_call 32; refine (words_calls HM6.out).mono ?_; rintro e w7 ⟨v7, rfl, g, hv7, hrw, hgs, hbw⟩
       rw [HLN.out] at hv7
       subst hv7
       have cx := hrw.cell (i := b / 64) (v := uv x) (by simp [HX.out])
       have HM7 := Lib.hid (HM6.out.below hbw)
       have HB7 : Hid (Below w.heap.size w w7) := Lib.hid (HB6.out.trans (hbw.mono HB6.out.size))
       have lg := heap_lt hrw
       clear hrw hgs hbw)
    | fail)
  have HBIT := Lib.hid hbit
  clear hbit
  go_upto_region 14 with (first
    | (go_at_call 33; refine (num_calls _).out.mono ?_; rintro e w8 ⟨rfl, hbw⟩
       have cx8 := ((bcell hbw).1 _ _ lg).trans cx
       have HM8 := Lib.hid (HM7.out.below hbw)
       have HB8 : Hid (Below w.heap.size w w8) := Lib.hid (HB7.out.trans (hbw.mono HB7.out.size))
       clear hbw)
    | fail)
  have hcl := clear_calls HM8.out HBN.out
  rw [HBIT.out] at hcl
  have HCL := Lib.hid hcl
  clear hcl cx cx8 hx1 HX lg
  go_upto_region 15 with (first
    | (go_at_call 34; refine HCL.out.mono ?_; clear HCL; rintro e w9 ⟨rfl, hm, hmd⟩
       have HM9 := Lib.hid hm
       have HB9 : Hid (Below w.heap.size w w9) := Lib.hid (HB8.out.trans (hmd.below HB8.out.size HP.out))
       clear hm hmd)
    | fail)
  have hbit3 : Bm.bit (Bm.setW n W2 b (b + 1) false) b = false := by rw [Bm.setW_bit HM8.out.ok (by have := HBN.out; omega), if_pos (by omega)]
  obtain ⟨W3, hW3⟩ : ∃ W3, W3 = Bm.setW n W2 b (b + 1) false := ⟨_, rfl⟩
  rw [← hW3] at hbit3 HM9
  clear hW3
  have hte := test_calls HM9.out HBN.out
  rw [hbit3] at hte
  have HTE := Lib.hid hte
  clear hte
  go_upto_region 16 with (first
    | (go_at_call 29; refine HTE.out.out.mono ?_; clear HTE; rintro e w10 ⟨rfl, hbw⟩
       have HM10 := Lib.hid (HM9.out.below hbw)
       have HB10 : Hid (Below w.heap.size w w10) := Lib.hid (HB9.out.trans (hbw.mono HB9.out.size))
       clear hbw)
    | fail)
  go_upto_region 17 with (first
    | (go_at_call 30; refine (levels_calls HM10.out).out.mono ?_; rintro e w11 ⟨rfl, hbw⟩
       have HM11 := Lib.hid (HM10.out.below hbw)
       have HB11 : Hid (Below w.heap.size w w11) := Lib.hid (HB10.out.trans (hbw.mono HB10.out.size))
       clear hbw)
    | fail)
  have hnc := nextclear_calls HM11.out (HT.out.below HB11.out) (wf_nat (n := b) (by omega))
  rw [Int.toNat_natCast, ← (show Bm.IsFind (fun t => !Bm.bit W3 t) n b (b : Int) from .inr ⟨b, rfl, Nat.le_refl _, HBN.out, by show (!Bm.bit W3 b) = true; rw [hbit3]; rfl, fun t h1 h2 => by omega⟩).eq] at hnc
  have HNC := Lib.hid hnc
  clear hnc
  go_upto_region 18 with (first
    | (go_at_call 35; refine HNC.out.out.mono ?_; clear HNC; rintro e w12 ⟨rfl, hbw⟩
       have HM12 := Lib.hid (HM11.out.below hbw)
       have HB12 : Hid (Below w.heap.size w w12) := Lib.hid (HB11.out.trans (hbw.mono HB11.out.size))
       clear hbw)
    | fail)
  have HLN3 : Hid (W3.length = R) := Lib.hid (by rw [HM12.out.ok.len, ← HM8.out.ok.len]; exact HLN.out)
  obtain ⟨y, hy⟩ : ∃ y, W3[b / 64]? = some y := ⟨_, List.getElem?_eq_getElem (by rw [HLN3.out]; omega)⟩
  have hyb : y.toNat.testBit (b % 64) = false := by rw [← hbit3, Bm.bit, List.getD_eq_getElem?_getD, hy]; rfl
  have hy1 := shr_zero y.toNat_lt hyb
  have HY := Lib.hid hy
  clear hy hyb hbit3
  go_upto_region 19 with (first
    | (go_at_call 32; refine (words_calls HM12.out).mono ?_; rintro e w13 ⟨v13, rfl, g2, hv13, hrw, hgs, hbw⟩
       rw [HLN3.out] at hv13
       subst hv13
       have cy := hrw.cell (i := b / 64) (v := uv y) (by simp [HY.out])
       have HM13 := Lib.hid (HM12.out.below hbw)
       have HB13 : Hid (Below w.heap.size w w13) := Lib.hid (HB12.out.trans (hbw.mono HB12.out.size))
       have lg2 := heap_lt hrw
       clear hrw hgs hbw)
    | fail)
  have hnum := fun (w : World) (e : Int) => num_calls (w := w) e
  have HNa := Lib.hid hnum
  have HNb := Lib.hid hnum
  clear hnum
  go_upto_region 21 with (first
    | (go_at_call 33; refine (HNa.out w13 _).out.mono ?_; clear HNa; rintro e w14 ⟨rfl, hbw⟩
       have cy14 := ((bcell hbw).1 _ _ lg2).trans cy
       have lg14 := Nat.lt_of_lt_of_le lg2 hbw.size
       have HM14 := Lib.hid (HM13.out.below hbw)
       have HB14 : Hid (Below w.heap.size w w14) := Lib.hid (HB13.out.trans (hbw.mono HB13.out.size))
       clear hbw cy lg2)
    | (go_at_call 33; refine (HNb.out w14 _).out.mono ?_; clear HNb; rintro e w15 ⟨rfl, hbw⟩
       have cy15 := ((bcell hbw).1 _ _ lg14).trans cy14
       have HM15 := Lib.hid (HM14.out.below hbw)
       have HB15 : Hid (Below w.heap.size w w15) := Lib.hid (HB14.out.trans (hbw.mono HB14.out.size))
       clear hbw cy14 lg14)
    | fail)
  clear cy15 hy1 HY
  have hen := ends_calls HM15.out (HT.out.below HB15.out) HFN.out
  have HEN := Lib.hid hen
  clear hen
  go_wp2_with (first
    | (go_at_call 36; refine HEN.out.out.mono ?_; rintro e w16 ⟨rfl, hbw⟩)
    | fail)
  go_ret
  exact ⟨rfl, HB15.out.trans (hbw.mono HB15.out.size)⟩
end Go.Proofs.YtckbckdaffdjmaaDoor

/- The statement BitmapTwoLevels: every input. -/
namespace Go.Proofs.YtckbckdaffdjmaaDoor
open Go.RowKit
set_option maxRecDepth 100000
set_option linter.unusedVariables false
set_option linter.unusedSimpArgs false

set_option maxHeartbeats 8000000 in
theorem twolevels_calls {w : World} {n b f : Int} {v sv : Value} {V : List UInt64} {ops : List OpV} (hn : (Lit.int .i64 n).wf = true) (hv : RU w v V) (hs : SlOp w sv ops) (hT : Tz w) :
    Pur Tryd.prog 5 #[.int .i64 n, v, sv, .int .i64 b, .int .i64 f] w (.bool true) := by
  by_cases hl : Bm.listedB n V = true
  · have hl2 := hl
    unfold Bm.listedB at hl2
    simp only [Bool.and_eq_true, decide_eq_true_eq, beq_iff_eq] at hl2
    obtain ⟨m, rfl⟩ : ∃ m : Nat, n = m := ⟨n.toNat, by omega⟩
    rw [Int.toNat_natCast] at hl2
    have hok := Bm.ok_of_valid (by omega) (by omega) hl2.2
    by_cases h1 : 0 ≤ b ∧ b < m ∧ 0 ≤ f ∧ f < m
    · obtain ⟨b, rfl⟩ : ∃ k : Nat, b = k := ⟨b.toNat, by omega⟩
      obtain ⟨f, rfl⟩ : ∃ k : Nat, f = k := ⟨f.toNat, by omega⟩
      exact twolevels_main hok hv hs hT (by omega) (by omega)
    · unfold Pur
      have hli := lawlisted_calls hv hn
      rw [hl] at hli
      have HLI := Lib.hid hli
      obtain ⟨vp, vc, hve⟩ := hv.form
      generalize V.length = VL at hve
      subst hve
      clear hv hs hT hli hl hl2 hok hn
      go_enter Tryd.func5, Tryd.ntmps5
      by_cases e1 : b < 0
      · clear h1
        go_wp2_with (first | (go_at_call 26; refine HLI.out.out.mono ?_; rintro e w1 ⟨rfl, hbw⟩) | fail)
        go_ret
        exact ⟨rfl, hbw⟩
      · by_cases e2 : (m : Int) ≤ b
        · clear h1
          go_wp2_with (first | (go_at_call 26; refine HLI.out.out.mono ?_; rintro e w1 ⟨rfl, hbw⟩) | fail)
          go_ret
          exact ⟨rfl, hbw⟩
        · have e2' : b < (m : Int) := by omega
          have e1' : 0 ≤ b := by omega
          by_cases e3 : f < 0
          · clear h1
            go_wp2_with (first | (go_at_call 26; refine HLI.out.out.mono ?_; rintro e w1 ⟨rfl, hbw⟩) | fail)
            go_ret
            exact ⟨rfl, hbw⟩
          · have e4 : (m : Int) ≤ f := by omega
            have e3' : 0 ≤ f := by omega
            clear h1
            go_wp2_with (first | (go_at_call 26; refine HLI.out.out.mono ?_; rintro e w1 ⟨rfl, hbw⟩) | fail)
            go_ret
            exact ⟨rfl, hbw⟩
  · have hl' : Bm.listedB n V = false := by simpa using hl
    unfold Pur
    have hli := lawlisted_calls hv hn
    rw [hl'] at hli
    have HLI := Lib.hid hli
    obtain ⟨vp, vc, hve⟩ := hv.form
    generalize V.length = VL at hve
    subst hve
    clear hv hs hT hli hl hl' hn
    go_enter Tryd.func5, Tryd.ntmps5
    go_wp2_with (first | (go_at_call 26; refine HLI.out.out.mono ?_; rintro e w1 ⟨rfl, hbw⟩) | fail)
    go_ret
    exact ⟨rfl, hbw⟩
end Go.Proofs.YtckbckdaffdjmaaDoor

/- Scripts that came in; the library's table, as the row lays it. -/
namespace Go.Proofs.YtckbckdaffdjmaaDoor
open Go.RowKit Go.ChangeShapes
set_option maxRecDepth 100000
set_option linter.unusedVariables false
set_option linter.unusedSimpArgs false

theorem ops_tu : Tryd.prog.underlying 49 = some (.slice 39) := by kernel_rfl
theorem acts_tu : Tryd.prog.underlying 37 = some (.slice 134) := by kernel_rfl
theorem op_c : Tryd.prog.cellsOf 39 = 8 := by kernel_rfl
theorem op_b : Tryd.prog.bytesOf 39 = 112 := by kernel_rfl
theorem op_leaves : leaves Tryd.prog 10 39 = some [.int .i64, .bool, .int .i64, .int .i64, .other 22, .other 37, .other 37, .bool] := by kernel_rfl
section
variable {H : Type} {enc : TypeId × Value → H} {W : World} {b base : Nat} {spare : Nat → Bool} {held : Bool}
theorem acts_one {fuel : Nat} {v : Value} {x : DataW H × List MemPlace} (h : DataW.trod enc Tryd.prog W base spare held fuel 37 [v] = some x) : v.oneCell' = true := by
  rcases Go.Deep.open_slice acts_tu h with ⟨hcs, hx⟩ | ⟨a, len, cap, m, k, D, Pl, hcs, _⟩
  · simp only [List.cons.injEq, and_true] at hcs
    subst hcs; rfl
  · simp only [List.cons.injEq, and_true] at hcs
    subst hcs; rfl
theorem op_of_leaves {cs : List Value} (hl : LeavesW enc Tryd.prog W base spare held reachBytes [.int .i64, .bool, .int .i64, .int .i64, .other 22, .other 37, .other 37, .bool] cs) : ∃ o : OpV, cs = opL o ∧ OkOp W o := by
  obtain ⟨k, _, rfl, hk, hl1⟩ := hl.int
  obtain ⟨s, _, rfl, hl2⟩ := hl1.bool
  obtain ⟨a, _, rfl, ha, hl3⟩ := hl2.int
  obtain ⟨c, _, rfl, hc, hl4⟩ := hl3.int
  obtain ⟨wv, _, rfl, ⟨f1, x1, hx1, hw1⟩, hl5⟩ := hl4.other
  obtain ⟨bv, _, rfl, ⟨f2, x2, hx2, hw2⟩, hl6⟩ := hl5.other
  obtain ⟨av, _, rfl, ⟨f3, x3, hx3, hw3⟩, hl7⟩ := hl6.other
  obtain ⟨g, _, rfl, hl8⟩ := hl7.bool
  obtain rfl := hl8.unnil
  obtain ⟨l, hr, hlen⟩ := ru_of_trod hx1 hw1
  exact ⟨⟨k, s, a, c, l, wv, bv, av, g⟩, rfl, hk, ha, hc, hr, hlen, acts_one hx2, acts_one hx3⟩
theorem range_of_cells {g o n sz : Nat} {spot : Option _} {cs : List Value} (hs : spot = none) (h : W.cells? base ((⟨g, o, spot⟩ : Addr).add n) sz = some cs) : W.rangeAt g (o + n) cs := by
  subst hs
  obtain ⟨_, hlen, hc⟩ := World.cells?_some h
  intro j u hu
  have hj : j < sz := by rw [← hlen]; exact (List.getElem?_eq_some_iff.1 hu).1
  have := hc j hj
  rw [add_flat, add_flat] at this
  rw [this]; exact hu
theorem weights_elem {t e : TypeId} {D : Nat → DataW H} {len : Nat} {spr : List (DataW H)} (ht : Tryd.prog.underlying t = some (.slice e)) (hw : ∀ n ∈ (DataW.slice ((List.range len).map D) spr).weights Tryd.prog t, n ≤ reachBytes) {i : Nat} (hi : i < len) : ∀ n ∈ (D i).weights Tryd.prog e, n ≤ reachBytes := by
  intro n hn
  refine hw n ?_
  simp only [DataW.weights, ht, List.mem_cons, List.mem_append]
  right; left
  exact weights_mem_all (j := i) (by rw [List.getElem?_map, List.getElem?_range hi]; rfl) n hn
/-- A script that came in. -/
theorem open_ops {v : Value} {d : DataW H} {ps : List MemPlace} (hv : Value.okWide Tryd.prog W .any b 49 v) (h : DataW.Trod enc Tryd.prog W base spare held 49 v d ps) (hw : ∀ n ∈ d.weights Tryd.prog 49, n ≤ reachBytes) :
    ∃ l : List OpV, SlOp W v l := by
  obtain ⟨pa, n, cp, rfl⟩ := Go.WideShapes.okWide_slice ops_tu hv
  obtain ⟨fuel, hf⟩ := h
  rcases Go.Deep.open_slice ops_tu hf with ⟨hcs, hx⟩ | ⟨a, len, cap, m, k, D, Pl, hcs, hba, hl, hm, hmm, hx, hall⟩
  · simp [Value.cells] at hcs
    obtain ⟨rfl, rfl, rfl⟩ := hcs
    exact ⟨[], none, 0, rfl, by simp, fun i p hp => by simp at hp⟩
  · simp [Value.cells] at hcs
    obtain ⟨rfl, rfl, rfl⟩ := hcs
    simp only [Prod.mk.injEq] at hx
    obtain ⟨rfl, _⟩ := hx
    have hlm : n ≤ m := by rw [hmm]; split <;> omega
    have hn : n ≤ 1256584717715 := by
      have := hw ((n + (m - n)) * Tryd.prog.bytesOf 39) (by simp [DataW.weights, ops_tu])
      rw [op_b] at this
      simp only [reachBytes] at this
      omega
    rw [op_c] at hall
    have hE : ∀ i, i < n → ∃ o : OpV, OkOp W o ∧ W.cells? base (a.add (i * 8)) 8 = some (opL o) := fun i hi => by
      obtain ⟨cs, hc, ht⟩ := hall i (by omega)
      obtain ⟨o, rfl, h1⟩ := op_of_leaves (leaves_okW 10 _ _ _ _ _ op_leaves ht (weights_elem ops_tu hw hi))
      exact ⟨o, h1, hc⟩
    haveI : Inhabited OpV := ⟨⟨0, false, 0, 0, [], .slice none 0 0, .slice none 0 0, .slice none 0 0, false⟩⟩
    obtain ⟨y, hy⟩ := Go.Deep.choose_lt (α := OpV) (p := fun i y => OkOp W y ∧ W.cells? base (a.add (i * 8)) 8 = some (opL y)) hE
    have hll : ((List.range n).map y).length = n := by simp
    refine ⟨(List.range n).map y, some a, cp, by rw [hll], by rw [hll]; exact hn, fun i p hp => ?_⟩
    have hi : i < n := by have := (List.getElem?_eq_some_iff.1 hp).1; rwa [hll] at this
    rw [List.getElem?_map, List.getElem?_range hi] at hp
    have hp : y i = p := by simpa using hp
    subst hp
    obtain ⟨h1, h2⟩ := hy i hi
    obtain ⟨_, _, hc0⟩ := World.cells?_some (hy 0 (by omega)).2
    have h00 := hc0 0 (by decide)
    have hsp := World.cell?_spot (w := W) (a := (a.add (0 * 8)).add 0) (v := .int .i64 (y 0).kind) (by rw [h00]; rfl)
    obtain ⟨g, off, spot⟩ := a
    have hspot : spot = none := by simpa [Addr.add] using hsp
    subst hspot
    have hr := range_of_cells rfl h2
    exact ⟨g, off, rfl, cell_lt (hr 0 _ rfl), h1, hr⟩
end
end Go.Proofs.YtckbckdaffdjmaaDoor
