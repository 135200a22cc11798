/- made, by From. -/
import Derived.Test.YtckbckdaffdjmaaDoorMdU
namespace Go.Proofs.YtckbckdaffdjmaaDoor
open Go.RowKit
set_option maxRecDepth 100000
set_option linter.unusedVariables false
set_option linter.unusedSimpArgs false

set_option maxHeartbeats 8000000 in
theorem made_from {w : World} {b N : Nat} {own : Nat → Prop} {late : Bool} (hK : KeepC late) (hN : N + 2 ≤ 5864062014805) (hb : Bok w b own late N) {n : Int} (hn : (Lit.int .i64 n).wf = true) {xv : Value} {V : List UInt64} (hx : RU w xv V) (hV : V.length + 80 ≤ 17592186044416) :
    Calls Tryd.prog 17 #[.agg #[.bool true, .int .i64 n, xv], .pointer (some ⟨b, 0, none⟩)] w fun e w' => ∃ P own', e = .returned (.tuple #[.pointer (some ⟨P, 0, none⟩), .bool true]) ∧ MadeP w w' P b own' ∧ Bok w' b own' late (N + 2) ∧ (∀ k, k < w.heap.size → (own' k ↔ own k)) ∧ Mod own w w' := by
  have HB := Lib.hid hb
  have HX := Lib.hid hx
  have HV := Lib.hid hV
  have HN := Lib.hid hN
  have HK := Lib.hid hK
  obtain ⟨q, c, hxe⟩ := hx.form
  obtain ⟨L, hL⟩ : ∃ L, L = V.length := ⟨_, rfl⟩
  rw [← hL] at hxe
  clear hx hb hL hV hN hK
  subst hxe
  obtain ⟨w0, A, P, hw0, hA, hP, hra, hrp, hb0, hPl⟩ := boxed w true n (.slice q L c) b
  have HBX := Lib.hid (And.intro hb0 (And.intro hPl (And.intro hA hP)))
  have HX0 := Lib.hid (HX.out.below hb0)
  go_enter Tryd.func17, Tryd.ntmps17
  go_upto_region 4 with fail
  rw [← hw0, ← hP, ← hA]
  have hne : A ≠ P := by omega
  have hne2 : P ≠ A := by omega
  have ca0 := hra.cell (i := 0) rfl
  have ca1 := hra.cell (i := 1) rfl
  have ca2 := hra.cell (i := 2) rfl
  have HRA := Lib.hid hra
  have HRP := Lib.hid hrp
  clear hw0 hA hP hb0 hPl hra hrp
  have hcop := copied_calls HX0.out (by have := HV.out; omega)
  have HCC := Lib.hid hcop
  clear hcop
  go_upto_region 7 with (first
    | (go_at_call 19
       refine HCC.out.mono ?_
       rintro e w1 ⟨xi, rfl, hci, hb1⟩
       have hra1 := HRA.out.below hb1
       have cb0 := hra1.cell (i := 0) rfl
       have cb1 := hra1.cell (i := 1) rfl
       have cb2 := hra1.cell (i := 2) rfl
       have HRA1 := Lib.hid hra1
       have HRP1 := Lib.hid (HRP.out.below hb1)
       have HCI := Lib.hid hci
       have HB1 := Lib.hid hb1
       have hfr := from_any (w := w1) hn (hci.ru (by have := HV.out; omega))
       have HFR := Lib.hid hfr
       clear hra1 hci hb1 hfr)
    | (go_at_call 54
       refine HFR.out.mono ?_
       rintro e w2 ⟨q2, rfl, hq2, hb2⟩
       have hrp2 := HRP1.out.below hb2
       have cp2 := hrp2.cell (i := 0) rfl
       have fp2 := hrp2.frozen 0
       have HRP2 := Lib.hid hrp2
       have HRA2 := Lib.hid (HRA1.out.below hb2)
       have HQ2 := Lib.hid hq2
       have HB2 := Lib.hid hb2
       clear hrp2 hq2 hb2)
    | fail)
  obtain ⟨w3, hw3⟩ : ∃ w3, w3 = w2.setCell ⟨P, 0, none⟩ (.pointer q2) := ⟨_, rfl⟩
  have hra3 := HRA2.out.other hne2 0 (.pointer q2)
  have hrp3 := HRP2.out.set 0 (.pointer q2)
  have hm23 : Mod (fun k => k = P) w2 w3 := by rw [hw3]; exact Mod.setCell _ _ _ _ rfl
  rw [← hw3] at hra3 hrp3 ⊢
  have HM23 := Lib.hid hm23
  have HRA3 := Lib.hid hra3
  have HRP3 := Lib.hid hrp3
  have cc1 := hra3.cell (i := 1) rfl
  have cc2 := hra3.cell (i := 2) rfl
  have hmx3 : Mod (fun _ => False) w w3 := (((Mod.of_below HBX.out.1).onB HB1.out).onB HB2.out).on HM23.out fun k e => .inr (by have := HBX.out.2.2.2; omega)
  have hx3 : RU w3 (.slice q L c) V := HX.out.mod hmx3 (fun _ _ _ e => e)
  have HMX3 := Lib.hid hmx3
  have hfr := rfrom_any (w := w3) hn hx3
  have HFR3 := Lib.hid hfr
  have HX3 := Lib.hid hx3
  clear ca0 ca1 ca2 cb0 cb1 cb2 cp2 fp2 hra3 hrp3 hm23 hw3 hmx3 hx3 hfr
  go_upto_region 8 with (first
    | (go_at_call 55
       refine HFR3.out.mono ?_
       rintro e w4 ⟨q4, rfl, hq4, hb4⟩
       have hrp4 := HRP3.out.below hb4
       have cp4 := hrp4.cell (i := 1) rfl
       have fp4 := hrp4.frozen 1
       have HRP4 := Lib.hid hrp4
       have HRA4 := Lib.hid (HRA3.out.below hb4)
       have HQ4 := Lib.hid hq4
       have HB4 := Lib.hid hb4
       clear hrp4 hq4 hb4)
    | fail)
  obtain ⟨w5, hw5⟩ : ∃ w5, w5 = w4.setCell ⟨P, 1, none⟩ (.pointer q4) := ⟨_, rfl⟩
  have hra5 := HRA4.out.other hne2 1 (.pointer q4)
  have hrp5 := HRP4.out.set 1 (.pointer q4)
  have hm45 : Mod (fun k => k = P) w4 w5 := by rw [hw5]; exact Mod.setCell _ _ _ _ rfl
  rw [← hw5] at hra5 hrp5 ⊢
  have HM45 := Lib.hid hm45
  have HRA5 := Lib.hid hra5
  have HRP5 := Lib.hid hrp5
  have cd2 := hra5.cell (i := 2) rfl
  clear cp4 fp4 hra5 hrp5 hm45 hw5 cc1 cc2
  have hmx5 : Mod (fun _ => False) w w5 := (HMX3.out.onB HB4.out).on HM45.out fun k e => .inr (by have := HBX.out.2.2.2; omega)
  have hx5 : RU w5 (.slice q L c) V := HX.out.mod hmx5 (fun _ _ _ e => e)
  have hxiP : ∀ g, xi.ownBlock = some g → w0.heap.size ≤ g ∧ g < w1.heap.size := fun g e => (HCI.out.ou (by have := HV.out; omega)).lt g e
  have hm15 : Mod (fun k => k = P) w1 w5 := ((Mod.of_below HB2.out).trans HM23.out).trans ((Mod.of_below HB4.out).trans (HM45.out))
  have hci5 := HCI.out.mod hm15 (fun g e e' => by have h1 := (hxiP g e).1; have h2 := HBX.out.2.1; omega)
  have hint := intact_calls hci5 hx5 (by have := HV.out; omega)
  have HINT := Lib.hid hint
  have HMX5 := Lib.hid hmx5
  have HCI5 := Lib.hid hci5
  have HXIP := Lib.hid hxiP
  have HM15 := Lib.hid hm15
  clear hmx5 hx5 hxiP hm15 hci5 hint
  have HMX6 : Hid (∀ w6, Below w5.heap.size w5 w6 → Calls Tryd.prog 23 #[.pointer (some ⟨b, 0, none⟩), xi] w6 fun e w' => e = .returned (.tuple #[]) ∧ ∃ own', Bok w' b own' late (N + 2) ∧ (∀ k, k < w6.heap.size → (own' k ↔ own k ∨ xi.ownBlock = some k)) ∧ Mod (fun k => own k ∨ xi.ownBlock = some k) w6 w') := Lib.hid fun w6 hb6 =>
    HK.out.run (HB.out.mod (HMX5.out.onB hb6) (fun _ _ e => e.elim)) (((HCI5.out.below hb6).ou (by have := HV.out; omega)).more (Nat.zero_le _)) HV.out (fun g e e' => by have h1 := (HXIP.out g e).1; have h2 := HB.out.lt g e'; have h3 := HBX.out.1.size; omega) HN.out
  go_upto_region 14 with (first
    | (go_at_call 25
       refine HINT.out.out.mono ?_
       rintro e w6 ⟨rfl, hb6⟩
       have HB6 := Lib.hid hb6
       clear hb6)
    | (go_at_call 23
       refine (HMX6.out w6 HB6.out).mono ?_
       rintro e w7 ⟨rfl, own', hbok7, hlow7, hm7⟩
       have HBOK7 := Lib.hid hbok7
       have HLOW7 := Lib.hid hlow7
       have HM7 := Lib.hid hm7
       clear hbok7 hlow7 hm7)
    | fail)
  obtain ⟨E, hE⟩ : ∃ E, E = Bm.errF n V := ⟨_, rfl⟩
  rw [← hE] at HQ2 HQ4 ⊢
  clear hE
  obtain ⟨hb0, hPl, hA, hP⟩ := HBX.out
  have hs0 := hb0.size
  have hs1 := HB1.out.size
  have hs2 := HB2.out.size
  have hs3 := HM23.out.size
  have hs4 := HB4.out.size
  have hs5 := HM45.out.size
  have hs6 := HB6.out.size
  have hs7 := HM7.out.size
  have hxi := HXIP.out
  have hown := HB.out.lt
  have hm07 : Mod own w w7 := ((HMX5.out.onB HB6.out).mono (fun _ _ e => e.elim)).on HM7.out (fun k e => e.elim .inl fun e => .inr (by have := hxi k e; omega))
  have hnP : ¬ (own P ∨ xi.ownBlock = some P) := fun e => e.elim (fun e => by have := hown _ e; omega) (fun e => by have := hxi _ e; omega)
  have hrp7 := (HRP5.out.below HB6.out).mod HM7.out hnP
  have hm57 : Mod (fun k => own k ∨ xi.ownBlock = some k) w5 w7 := (Mod.of_below HB6.out).trans HM7.out
  have hm47 : Mod (fun k => k = P ∨ own k ∨ xi.ownBlock = some k) w4 w7 := (HM45.out.mono fun _ _ e => .inl e).trans (hm57.mono fun _ _ e => .inr e)
  have hm37 : Mod (fun k => k = P ∨ own k ∨ xi.ownBlock = some k) w3 w7 := (Mod.of_below HB4.out).trans hm47
  have hFF : ∀ k, w1.heap.size ≤ k → ¬ (k = P ∨ own k ∨ xi.ownBlock = some k) := fun k hk e => by
    rcases e with e | e | e
    · omega
    · have := hown _ e; omega
    · have := hxi _ e; omega
  have hpost' : MadeP w w7 P b own' ∧ q2.isNone = q4.isNone := by
    have hq1 : GotB w1 w3 q2 E n V := by
      rcases HQ2.out with h | ⟨h1, p, bw, ba, h2, h3, h4, h5, h6⟩
      · exact .inl h
      · exact .inr ⟨h1, p, bw, ba, h2, h3.mod HM23.out (by omega) (by omega) (by omega), h4, h5, h6⟩
    refine made_post hq1 HQ4.out (by omega) (by omega) (by omega) hm37 hm47 (fun k _ h => hFF k h) (fun k _ h => hFF k (by omega)) hrp7 (fun e => hnP ((HLOW7.out P (by omega)).1 e)) (fun k h1 h2 e => hFF k h1 (.inr ((HLOW7.out k (by omega)).1 e)))
  obtain ⟨hpost, hni⟩ := hpost'
  have hlow : ∀ k, k < w.heap.size → (own' k ↔ own k) := fun k hk => (HLOW7.out k (by omega)).trans ⟨fun e => e.elim id fun e => by have := hxi k e; omega, .inl⟩
  have hp0 := hrp7.cell (i := 0) rfl
  have hp1 := hrp7.cell (i := 1) rfl
  have HF := Lib.hid (And.intro hpost (And.intro HBOK7.out (And.intro hlow hm07)))
  have hni2 : (q2 = none ∧ q4 = none) ∨ (∃ a a', q2 = some a ∧ q4 = some a') := by
    cases q2 <;> cases q4 <;> simp at hni ⊢
  clear hs0 hs1 hs2 hs3 hs4 hs5 hs6 hs7 hPl hA hP hxi hown hm07 hnP hrp7 hm57 hm47 hm37 hFF hb0 hpost hni hlow hne hne2 cd2
  rcases hni2 with ⟨rfl, rfl⟩ | ⟨a, a', rfl, rfl⟩
  all_goals
    go_quiet (fail)
  all_goals
    go_wp2_with fail
    refine bodyPost_ret (results_tmp2 rfl _ _ _) rfl ?_
    have hd := below_drewN w7 nq
    exact ⟨P, own', rfl, HF.out.1.below hd, HF.out.2.1.below hd, HF.out.2.2.1, HF.out.2.2.2.onB hd⟩
end Go.Proofs.YtckbckdaffdjmaaDoor
