/- Settle comes to the same on both sides, whatever the verdict and the disks; who has the only disk that is not inconsistent is the source. -/
import Derived.Test.YtboanmhibbhceaaDoorDSettleMirrors
namespace Go.Proofs.YtboanmhibbhceaaDoor
open Go.RowKit
set_option linter.unusedVariables false
set_option linter.unusedSimpArgs false

theorem identSettleMirrors_calls (k r own peer : Int) (w : World) (hT : Turned w) :
    Pur Tryd.prog 4 #[verV k r, .int .i64 own, .int .i64 peer] w (.bool true) := by
  by_cases hr : 0 ≤ k ∧ k ≤ 7 ∧ 0 ≤ own ∧ own ≤ 2 ∧ 0 ≤ peer ∧ peer ≤ 2
  · obtain ⟨hk0, hk7, ho0, ho2, hp0, hp2⟩ := hr
    obtain ⟨a, b, c, h1, h2, c7, cT, cE, cS⟩ := settle_cases (r := r) hk0 hk7 ho0 ho2 hp0 hp2
    refine settleMirrors_in k r own peer a b c w hT h1 h2 hk0 hk7 ho0 ho2 hp0 hp2 ?_
    simp only [beq_iff_eq, bne_iff_ne, ne_eq, beq_eq_false_iff_ne]
    by_cases e7 : k = 7
    · obtain ⟨x, y, z⟩ := c7 e7
      exact .inl ⟨e7, y, z, x⟩
    by_cases eo : own = 0
    · by_cases ep : peer = 0
      · by_cases ec : c = 0
        · exact .inr (.inr (.inr (.inr (.inl ⟨e7, eo, ep, ec⟩))))
        · obtain ⟨_, _, x, y⟩ := cE e7 ec
          exact .inr (.inr (.inr (.inl ⟨e7, eo, ep, x, y, ec⟩)))
      · obtain ⟨x, y | y⟩ := cT e7 eo ep
        · exact .inr (.inl ⟨e7, eo, ep, y, x⟩)
        · exact .inr (.inr (.inl ⟨e7, eo, ep, y, x⟩))
    · have ec : c = 0 := by
        by_cases ec : c = 0
        · exact ec
        · exact absurd (cE e7 ec).1 eo
      by_cases ep : peer = 0
      · rcases cS e7 ec eo ep with x | x
        · exact .inr (.inr (.inr (.inr (.inr (.inr (.inl ⟨e7, eo, ep, x, ec⟩))))))
        · exact .inr (.inr (.inr (.inr (.inr (.inr (.inr ⟨e7, eo, ep, x, ec⟩))))))
      · exact .inr (.inr (.inr (.inr (.inr (.inl ⟨e7, eo, ep, ec⟩)))))
  · obtain ⟨c, h, hc⟩ := settle_out (r := r) hr
    exact settleMirrors_out k r own peer c w h hc hr

theorem of_laid_m {W : World} (h : laidMetH Tryd.prog Rows.identSettleMirrorsRow.laid W) : Turned W := of_laid h

/-- The door's own heap meets the condition. -/
theorem door_met_m (os : Os) (args : Array Value) : laidMetH Tryd.prog Rows.identSettleMirrorsRow.laid ((World.doorLaid Tryd.prog 400 os).forCall (fun _ _ => 0) ⟨#[], args, []⟩).memory :=
  laidMetH_of_parts3 (fuel := 8) (laidMet_of_run' 8 (by kernel_rfl) (by kernel_rfl)) (by kernel_rfl) (by kernel_rfl)

set_option maxRecDepth 100000 in
theorem identSettleMirrors_lifted (os : Os) (started : os.Started) (H : Type) (enc : TypeId × Value → H) :
    ReturnsInHanded {} Tryd.checked os 4 .any (fun w args => (Rows.identSettleMirrorsSpec.pre enc Tryd.prog Tryd.f4 [] false w args ∧ laidMetH Tryd.prog Rows.identSettleMirrorsRow.laid w) ∧ sizedMet enc Tryd.prog Tryd.f4 (OpenSpec.ofChange Rows.identSettleMirrorsSpec) false w args)
      (Rows.identSettleMirrorsSpec.post enc Tryd.prog Tryd.f4 false true false false) := by
  refine returnsInHanded_of_change_and (C := Tryd.checked) (X := fun w _ => laidMetH Tryd.prog Rows.identSettleMirrorsRow.laid w) (fun _ _ _ hh h => h.of_heap hh) seat_own started (by kernel_rfl) Tryd.func4
    (ChangeSpec.witness_shaped (enc := enc) (C := Tryd.checked) (os := os) (X := fun w _ => laidMetH Tryd.prog Rows.identSettleMirrorsRow.laid w) false (World.doorLaid Tryd.prog 400 os) #[verV 0 0, .int .i64 0, .int .i64 0] 8 rfl (World.shaped_of_RefB (by kernel_rfl) (by kernel_rfl)) (by kernel_rfl) (by kernel_rfl) (by kernel_rfl) (door_met_m os _)) ?_
  intro W base args ds gs before hval hW _ _ hL _
  have hW' := hW
  obtain ⟨p, q, hA, hV, rfl, hfz, hnd⟩ := hW
  rw [Tryd.params4] at hA hval
  obtain ⟨v0, v1, v2, d0, d1, d2, p0, p1, p2, rfl, rfl, _, h0, h1, h2⟩ := ChangeShapes.trodAll_three hA
  obtain ⟨rfl, rfl⟩ := ChangeShapes.trodVars_none hV
  obtain ⟨cs, rfl, hl⟩ := open_leaves ver_leaves (by kernel_rfl) (hval 0 _ v0 rfl rfl) h0
  obtain ⟨k, cs, rfl, _, hl⟩ := hl.int
  obtain ⟨r, cs, rfl, _, hl⟩ := hl.int
  obtain rfl := hl.unnil
  obtain ⟨own, rfl, _, _, _⟩ := ChangeShapes.open_int u3 (hval 1 _ v1 rfl rfl) h1
  obtain ⟨peer, rfl, _, _, _⟩ := ChangeShapes.open_int u3 (hval 2 _ v2 rfl rfl) h2
  refine (identSettleMirrors_calls k r own peer W (of_laid_m hL)).out.mono fun e W' ⟨he, hb⟩ => ⟨_, he, ?_⟩
  exact law_post (tb := 4) seat_laid rfl rfl Tryd.underlying4 (by kernel_rfl) (fun l hl => by match l, hl with | [_, _, _], _ => rfl) hW' hb

theorem identSettleMirrors_holds : Rows.IdentSettleMirrorsSaid :=
  OpenClaim.holds_of_wide 4 Tryd.f4 rfl rfl rfl rfl rfl rfl rfl ⟨rfl, rfl, rfl, rfl, rfl⟩ rfl rfl rfl rfl rfl (by kernel_rfl) Tryd.func4 (by kernel_rfl)
    (of_decide_eq_true (by kernel_rfl)) (by unfold Func.isWrapper; rw [if_neg (of_decide_eq_false (by kernel_rfl))]; exact ⟨rfl, rfl⟩)
    (fun os started H enc _ => identSettleMirrors_lifted os started H enc)

theorem identSettleMirrors_card_holds : Rows.IdentSettleMirrorsCardSaid :=
  Claim7.holds_tied_plain_at .later [] [.data] true (true, "3962796939dbe3fbf62156f2ce1f1dae7f35d2bf3dac168972bdf1619e62005a") false
    identSettleMirrors_holds (fun _ h => by cases h) (by kernel_rfl) (fun _ h => by cases h) identSettleMirrors_row_tie rfl ⟨rfl, rfl⟩ (by kernel_rfl) rfl
    (fun f fn hf hfn => by
      obtain rfl : f = 4 := Option.some.inj ((show Tryd.prog.funcNamed "replica/replicalaw06.IdentSettleMirrors" = some 4 by kernel_rfl).symm.trans hf) |>.symm
      obtain rfl : fn = Tryd.f4 := (Option.some.inj (Tryd.func4.symm.trans hfn)).symm
      exact ⟨by kernel_rfl, fun j t ht => by
        rw [Tryd.params4] at ht
        have hm : t ∈ [23, 3, 3] := by simpa using Array.mem_of_getElem? ht
        have hall : ([23, 3, 3].all fun u => !Tryd.prog.wantsStandIn u) = true := by kernel_rfl
        exact (show Tryd.prog.wantsStandIn t = false by simpa using List.all_eq_true.1 hall t hm)⟩)
    (by kernel_rfl)
#print axioms identSettleMirrors_card_holds
end Go.Proofs.YtboanmhibbhceaaDoor
