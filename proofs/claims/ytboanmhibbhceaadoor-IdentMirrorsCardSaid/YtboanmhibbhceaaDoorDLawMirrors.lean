/- Both sides' verdicts are each other's mirror, by the same rule of the fourteen, whatever identifiers and flags meet: the row and the card. -/
import Derived.Test.YtboanmhibbhceaaDoorDMirrors
import Derived.Carry
namespace Go.Proofs.YtboanmhibbhceaaDoor
open Go.RowKit
set_option linter.unusedVariables false
set_option linter.unusedSimpArgs false

/-- The door's own heap meets the condition. -/
theorem door_met_m (os : Os) (args : Array Value) : laidMetH Tryd.prog Rows.identMirrorsRow.laid ((World.doorLaid Tryd.prog 400 os).forCall (fun _ _ => 0) ⟨#[], args, []⟩).memory :=
  laidMetH_of_parts3 (fuel := 8) (laidMet_of_run' 8 (by kernel_rfl) (by kernel_rfl)) (by kernel_rfl) (by kernel_rfl)

theorem gens_leaves : leaves Tryd.prog 30 38 = some [.int .u64, .int .u64, .int .u64, .int .u64] := by kernel_rfl
theorem cu32 : Tryd.prog.underlying 31 = some (.int .u32) := by kernel_rfl

abbrev gensV (c b o p : Int) : Value := .agg (gc ⟨c, b, o, p⟩)

set_option maxRecDepth 100000 in
theorem identMirrors_lifted (os : Os) (started : os.Started) (H : Type) (enc : TypeId × Value → H) :
    ReturnsInHanded {} Tryd.checked os 6 .any (fun w args => (Rows.identMirrorsSpec.pre enc Tryd.prog Tryd.f6 [] false w args ∧ laidMetH Tryd.prog Rows.identMirrorsRow.laid w) ∧ sizedMet enc Tryd.prog Tryd.f6 (OpenSpec.ofChange Rows.identMirrorsSpec) false w args)
      (Rows.identMirrorsSpec.post enc Tryd.prog Tryd.f6 false true false false) := by
  refine returnsInHanded_of_change_and (C := Tryd.checked) (X := fun w _ => laidMetH Tryd.prog Rows.identMirrorsRow.laid w) (fun _ _ _ hh h => h.of_heap hh) seat_own started (by kernel_rfl) Tryd.func6
    (ChangeSpec.witness_shaped (enc := enc) (C := Tryd.checked) (os := os) (X := fun w _ => laidMetH Tryd.prog Rows.identMirrorsRow.laid w) false (World.doorLaid Tryd.prog 400 os) #[gensV 0 0 0 0, .int .u32 0, gensV 0 0 0 0, .int .u32 0] 8 rfl (World.shaped_of_RefB (by kernel_rfl) (by kernel_rfl)) (by kernel_rfl) (by kernel_rfl) (by kernel_rfl) (door_met_m os _)) ?_
  intro W base args ds gs before hval hW _ _ hL _
  have hW' := hW
  obtain ⟨p, q, hA, hV, rfl, hfz, hnd⟩ := hW
  rw [Tryd.params6] at hA hval
  obtain ⟨v0, v1, v2, v3, d0, d1, d2, d3, p0, p1, p2, p3, rfl, rfl, _, h0, h1, h2, h3⟩ := trodAll_four hA
  obtain ⟨rfl, rfl⟩ := ChangeShapes.trodVars_none hV
  obtain ⟨cs, rfl, hl⟩ := open_leaves gens_leaves (by kernel_rfl) (hval 0 _ v0 rfl rfl) h0
  obtain ⟨g1, cs, rfl, _, hl⟩ := hl.int
  obtain ⟨g2, cs, rfl, _, hl⟩ := hl.int
  obtain ⟨g3, cs, rfl, _, hl⟩ := hl.int
  obtain ⟨g4, cs, rfl, _, hl⟩ := hl.int
  obtain rfl := hl.unnil
  obtain ⟨own, rfl, _, _, _⟩ := ChangeShapes.open_int cu32 (hval 1 _ v1 rfl rfl) h1
  obtain ⟨cs, rfl, hl⟩ := open_leaves gens_leaves (by kernel_rfl) (hval 2 _ v2 rfl rfl) h2
  obtain ⟨s1, cs, rfl, _, hl⟩ := hl.int
  obtain ⟨s2, cs, rfl, _, hl⟩ := hl.int
  obtain ⟨s3, cs, rfl, _, hl⟩ := hl.int
  obtain ⟨s4, cs, rfl, _, hl⟩ := hl.int
  obtain rfl := hl.unnil
  obtain ⟨peer, rfl, _, _, _⟩ := ChangeShapes.open_int cu32 (hval 3 _ v3 rfl rfl) h3
  refine (identMirrors_calls own peer ⟨g1, g2, g3, g4⟩ ⟨s1, s2, s3, s4⟩ W (of_laid hL)).out.mono fun e W' ⟨he, hb⟩ => ⟨_, he, ?_⟩
  exact law_post (tb := 4) seat_laid rfl rfl Tryd.underlying4 (by kernel_rfl) (fun l hl => by match l, hl with | [_, _, _, _], _ => rfl) hW' hb

theorem identMirrors_holds : Rows.IdentMirrorsSaid :=
  OpenClaim.holds_of_wide 6 Tryd.f6 rfl rfl rfl rfl rfl rfl rfl ⟨rfl, rfl, rfl, rfl, rfl⟩ rfl rfl rfl rfl rfl (by kernel_rfl) Tryd.func6 (by kernel_rfl)
    (of_decide_eq_true (by kernel_rfl)) (by unfold Func.isWrapper; rw [if_neg (of_decide_eq_false (by kernel_rfl))]; exact ⟨rfl, rfl⟩)
    (fun os started H enc _ => identMirrors_lifted os started H enc)

theorem identMirrors_card_holds : Rows.IdentMirrorsCardSaid :=
  Claim7.holds_tied_plain_at .later [] [.data] true (true, "3962796939dbe3fbf62156f2ce1f1dae7f35d2bf3dac168972bdf1619e62005a") false
    identMirrors_holds (fun _ h => by cases h) (by kernel_rfl) (fun _ h => by cases h) identMirrors_row_tie rfl ⟨rfl, rfl⟩ (by kernel_rfl) rfl
    (fun f fn hf hfn => by
      obtain rfl : f = 6 := Option.some.inj ((show Tryd.prog.funcNamed "replica/replicalaw06.IdentMirrors" = some 6 by kernel_rfl).symm.trans hf) |>.symm
      obtain rfl : fn = Tryd.f6 := (Option.some.inj (Tryd.func6.symm.trans hfn)).symm
      exact ⟨by kernel_rfl, fun j t ht => by
        rw [Tryd.params6] at ht
        have hm : t ∈ [38, 31, 38, 31] := by simpa using Array.mem_of_getElem? ht
        have hall : ([38, 31, 38, 31].all fun u => !Tryd.prog.wantsStandIn u) = true := by kernel_rfl
        exact (show Tryd.prog.wantsStandIn t = false by simpa using List.all_eq_true.1 hall t hm)⟩)
    (by kernel_rfl)
#print axioms identMirrors_card_holds
end Go.Proofs.YtboanmhibbhceaaDoor
