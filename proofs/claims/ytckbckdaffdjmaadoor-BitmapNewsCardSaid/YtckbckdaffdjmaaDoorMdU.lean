/- made: both bitmaps, or neither. -/
import Derived.Test.YtckbckdaffdjmaaDoorBok
import Derived.BigQuiet
namespace Go.Proofs.YtckbckdaffdjmaaDoor
open Go.RowKit
set_option maxRecDepth 100000
set_option linter.unusedVariables false
set_option linter.unusedSimpArgs false

/-- What made leaves at P. -/
def MadeP (w w' : World) (P b : Nat) (own' : Nat → Prop) : Prop :=
  w.heap.size ≤ P ∧ ¬ own' P ∧ (Rw w' P 35 [.pointer none, .pointer none, .pointer (some ⟨b, 0, none⟩)] ∨
    ∃ p bw ba r bb n W, Pr w' P p bw ba r bb b n W ∧ ∀ k, Pr.At P p bw ba r bb k → w.heap.size ≤ k ∧ ¬ own' k)
theorem MadeP.below {w w1 w' : World} {P b : Nat} {own' : Nat → Prop} (h : MadeP w w1 P b own') (hb : Below w1.heap.size w1 w') : MadeP w w' P b own' := by
  obtain ⟨h1, h2, h | ⟨p, bw, ba, r, bb, n, W, h3, h4⟩⟩ := h
  · exact ⟨h1, h2, .inl (h.below hb)⟩
  · exact ⟨h1, h2, .inr ⟨p, bw, ba, r, bb, n, W, h3.below hb, h4⟩⟩
theorem below_drewN (w : World) : ∀ k, Below w.heap.size w (w.drewN k)
  | 0 => Below.refl _ _
  | k + 1 => (below_drewN w k).drew
theorem made_post {w w1 w2 w3 w' : World} {P b : Nat} {own' : Nat → Prop} {q q' : Option Addr} {er : Nat} {n : Int} {W : List UInt64}
    (hq : GotB w1 w2 q er n W) (hq' : GotR w2 w3 q' er (Bm.bools n.toNat W)) (hs : w.heap.size ≤ P) (hP : P < w1.heap.size) (hs2 : w1.heap.size ≤ w2.heap.size)
    {F G : Nat → Prop} (hm2 : Mod F w2 w') (hm3 : Mod G w3 w') (hF : ∀ k, k < w2.heap.size → w1.heap.size ≤ k → ¬ F k) (hG : ∀ k, k < w3.heap.size → w2.heap.size ≤ k → ¬ G k)
    (hb : Rw w' P 35 [.pointer q, .pointer q', .pointer (some ⟨b, 0, none⟩)]) (hoP : ¬ own' P) (ho : ∀ k, w1.heap.size ≤ k → k < w3.heap.size → ¬ own' k) :
    MadeP w w' P b own' ∧ q.isNone = q'.isNone := by
  rcases hq with ⟨he, rfl⟩ | ⟨he, p, bw, ba, rfl, hm, h1, h2, h3⟩
  · rcases hq' with ⟨he', rfl⟩ | ⟨he', _⟩
    · exact ⟨⟨hs, hoP, .inl hb⟩, rfl⟩
    · exact absurd he' he
  · rcases hq' with ⟨he', rfl⟩ | ⟨he', r, bb, rfl, hr, h4, h5⟩
    · exact absurd he he'
    · have l1 := heap_lt hm.hs
      have l2 := heap_lt hm.hw
      have l3 := heap_lt hm.ha
      have l4 := heap_lt hr.hs
      have l5 := heap_lt hr.hb
      refine ⟨⟨hs, hoP, .inr ⟨p, bw, ba, r, bb, n.toNat, W, ⟨hb, hm.mod hm2 (hF _ l1 h1) (hF _ l2 h2) (hF _ l3 h3), hr.mod hm3 (hG _ l4 h4) (hG _ l5 h5), by omega, by omega, by omega⟩, ?_⟩⟩, rfl⟩
      rintro k (rfl | rfl | rfl | rfl | rfl | rfl)
      · exact ⟨hs, hoP⟩
      all_goals exact ⟨by omega, ho _ (by omega) (by omega)⟩
theorem Mod.on {F G : Nat → Prop} {w w1 w' : World} (h : Mod F w w1) (k : Mod G w1 w') (hg : ∀ k, G k → F k ∨ w.heap.size ≤ k) : Mod F w w' := h.trans' (k.mono fun i _ e => hg i e)
theorem Mod.onB {F : Nat → Prop} {w w1 w' : World} (h : Mod F w w1) (k : Below w1.heap.size w1 w') : Mod F w w' := h.trans (Mod.of_below k)
/-- The argument and the pair, just boxed. -/
theorem boxed (w : World) (fr : Bool) (n : Int) (xv : Value) (b : Nat) : ∃ w0 A P, w0 = (w.alloc (.cells #[.bool fr, .int .i64 n, xv] 24)).alloc (.cells #[.pointer none, .pointer none, .pointer (some ⟨b, 0, none⟩)] 35) ∧ A = w.heap.size ∧ P = w.heap.size + 1 ∧
    Rw w0 A 24 [.bool fr, .int .i64 n, xv] ∧ Rw w0 P 35 [.pointer none, .pointer none, .pointer (some ⟨b, 0, none⟩)] ∧ Below w.heap.size w w0 ∧ P < w0.heap.size := by
  refine ⟨_, _, _, rfl, rfl, rfl, (heap_old _ _ _ (by simp)).trans (heap_new _ _ _ rfl), heap_new _ _ _ (by simp), (below_alloc1 _ _).alloc (by simp) _, by simp⟩
set_option maxHeartbeats 4000000 in
theorem made_new {w : World} {b N : Nat} {own : Nat → Prop} {late : Bool} (hb : Bok w b own late N) {n : Int} (hn : (Lit.int .i64 n).wf = true) {xv : Value} {V : List UInt64} (hx : RU w xv V) :
    Calls Tryd.prog 17 #[.agg #[.bool false, .int .i64 n, xv], .pointer (some ⟨b, 0, none⟩)] w fun e w' => ∃ P own', e = .returned (.tuple #[.pointer (some ⟨P, 0, none⟩), .bool true]) ∧ MadeP w w' P b own' ∧ Bok w' b own' late (N + 2) ∧ (∀ k, k < w.heap.size → (own' k ↔ own k)) ∧ Mod own w w' := by
  have HB := Lib.hid hb
  obtain ⟨q, c, hxe⟩ := hx.form
  obtain ⟨L, hL⟩ : ∃ L, L = V.length := ⟨_, rfl⟩
  rw [← hL] at hxe
  clear hx hb hL
  subst hxe
  obtain ⟨w0, A, P, hw0, hA, hP, hra, hrp, hb0, hPl⟩ := boxed w false n (.slice q L c) b
  have HBX := Lib.hid (And.intro hb0 (And.intro hPl (And.intro hA hP)))
  go_enter Tryd.func17, Tryd.ntmps17
  go_upto_region 4 with fail
  rw [← hw0, ← hP, ← hA]
  have hne : A ≠ P := by omega
  have hne2 : P ≠ A := by omega
  have ca0 := hra.cell (i := 0) rfl
  have ca1 := hra.cell (i := 1) rfl
  have HRA := Lib.hid hra
  have HRP := Lib.hid hrp
  clear hw0 hA hP hb0 hPl hra hrp
  go_upto_region 13 with (first
    | (go_at_call 56
       refine (new_any hn).mono ?_
       rintro e w1 ⟨q1, rfl, hq1, hb1⟩
       have hrp1 := HRP.out.below hb1
       have cp1 := hrp1.cell (i := 0) rfl
       have fp1 := hrp1.frozen 0
       have HRP1 := Lib.hid hrp1
       have HRA1 := Lib.hid (HRA.out.below hb1)
       have HQ1 := Lib.hid hq1
       have HB1 := Lib.hid hb1
       clear hrp1 hq1 hb1)
    | fail)
  obtain ⟨w2, hw2⟩ : ∃ w2, w2 = w1.setCell ⟨P, 0, none⟩ (.pointer q1) := ⟨_, rfl⟩
  have hra2 := HRA1.out.other hne2 0 (.pointer q1)
  have hrp2 := HRP1.out.set 0 (.pointer q1)
  have hm12 : Mod (fun k => k = P) w1 w2 := by rw [hw2]; exact Mod.setCell _ _ _ _ rfl
  rw [← hw2] at hra2 hrp2 ⊢
  have HM12 := Lib.hid hm12
  have HRA2 := Lib.hid hra2
  have HRP2 := Lib.hid hrp2
  have ca2 := hra2.cell (i := 1) rfl
  clear ca0 ca1 cp1 fp1 hra2 hrp2 hm12 hw2
  go_upto_region 14 with (first
    | (go_at_call 57
       refine (rnew_any hn).mono ?_
       rintro e w3 ⟨q3, rfl, hq3, hb3⟩
       have hrp3 := HRP2.out.below hb3
       have cp3 := hrp3.cell (i := 1) rfl
       have fp3 := hrp3.frozen 1
       have HRP3 := Lib.hid hrp3
       have HQ3 := Lib.hid hq3
       have HB3 := Lib.hid hb3
       clear hrp3 hq3 hb3)
    | fail)
  obtain ⟨w4, hw4⟩ : ∃ w4, w4 = w3.setCell ⟨P, 1, none⟩ (.pointer q3) := ⟨_, rfl⟩
  have hrp4 := HRP3.out.set 1 (.pointer q3)
  have hm34 : Mod (fun k => k = P) w3 w4 := by rw [hw4]; exact Mod.setCell _ _ _ _ rfl
  rw [← hw4] at hrp4 ⊢
  have HM34 := Lib.hid hm34
  have cp40 := hrp4.cell (i := 0) rfl
  have cp41 := hrp4.cell (i := 1) rfl
  have HRP4 := Lib.hid hrp4
  clear cp3 fp3 hrp4 hm34 hw4 ca2
  obtain ⟨E, hE⟩ : ∃ E, E = Bm.errN n := ⟨_, rfl⟩
  rw [← hE] at HQ1 HQ3 ⊢
  clear hE
  obtain ⟨hb0, hPl, hA, hP⟩ := HBX.out
  have hs1 := HB1.out.size
  have hs2 := HM12.out.size
  have hs3 := HB3.out.size
  have hs4 := HM34.out.size
  have hbz : Bm.bools n.toNat (List.replicate (Bm.room n.toNat) 0) = List.replicate n.toNat false := Bm.bools_zero
  have hq3 := HQ3.out
  rw [← hbz] at hq3
  have hm04 : Mod (fun _ => False) w w4 := ((((Mod.of_below hb0).onB HB1.out).on HM12.out (fun k e => .inr (by omega))).onB HB3.out).on HM34.out (fun k e => .inr (by omega))
  have hm24 : Mod (fun k => k = P) w2 w4 := (Mod.of_below HB3.out).trans HM34.out
  have hbok := HB.out.mod hm04 (fun _ _ e => e.elim)
  have hlow := HB.out.lt
  have hpost' : MadeP w w4 P b own ∧ q1.isNone = q3.isNone := by
    have hq1 : GotB w0 w2 q1 E n (List.replicate (Bm.room n.toNat) 0) := by
      rcases HQ1.out with h | ⟨h1, p, bw, ba, h2, h3, h4, h5, h6⟩
      · exact .inl h
      · exact .inr ⟨h1, p, bw, ba, h2, h3.mod HM12.out (by omega) (by omega) (by omega), h4, h5, h6⟩
    exact made_post hq1 hq3 (by omega) hPl (by omega) hm24 HM34.out (fun k _ h e => by omega) (fun k _ h e => by omega) HRP4.out (fun e => by have := hlow _ e; omega) (fun k hk _ e => by have := hlow _ e; omega)
  obtain ⟨hpost, hni⟩ := hpost'
  have HF := Lib.hid (And.intro hpost (And.intro hbok hm04))
  have hni2 : (q1 = none ∧ q3 = none) ∨ (∃ a a', q1 = some a ∧ q3 = some a') := by
    cases q1 <;> cases q3 <;> simp at hni ⊢
  clear hq3 hbz hs1 hs2 hs3 hs4 hPl hA hP hlow hm04 hm24 hbok hb0 hpost hni hne hne2
  rcases hni2 with ⟨rfl, rfl⟩ | ⟨a, a', rfl, rfl⟩
  all_goals
    go_quiet (fail)
  all_goals
    go_wp2_with fail
    refine bodyPost_ret (results_tmp2 rfl _ _ _) rfl ?_
    have hd := below_drewN w4 nq
    exact ⟨P, own, rfl, HF.out.1.below hd, (HF.out.2.1.below hd).more (by omega), fun k _ => Iff.rfl, (HF.out.2.2.onB hd).mono fun _ _ e => e.elim⟩
end Go.Proofs.YtckbckdaffdjmaaDoor
