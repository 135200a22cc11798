/- A frame of which bits within 32 that follow each other were turned, in one part of it, is refused, whatever the frame and the bits. -/
import Derived.Test.YtbgfoobcpacfeaaDoorPk8
import Derived.Test.YtbgfoobcpacfeaaDoorLwFr
import Derived.Carry
import Derived.Test.YtbgfoobcpacfeaaDoorWTells
namespace Go.Proofs.YtbgfoobcpacfeaaDoor
open Go.RowKit Go.ChangeShapes Go.WideShapes Go.ChangeAt
set_option maxRecDepth 100000
set_option linter.unusedVariables false
set_option linter.unusedSimpArgs false

theorem wireTells_lifted (os : Os) (started : os.Started) (H : Type) (enc : TypeId × Value → H) :
    ReturnsInHanded {} Tryd.checked os 12 .any (fun w args => (Rows.wireTellsSpec.pre enc Tryd.prog Tryd.f12 [] false w args ∧ laidMetH Tryd.prog Rows.wireTellsRow.laid w) ∧ sizedMet enc Tryd.prog Tryd.f12 (OpenSpec.ofChange Rows.wireTellsSpec) false w args)
      (Rows.wireTellsSpec.post enc Tryd.prog Tryd.f12 false true false false) := by
  refine returnsInHanded_of_change_and (C := Tryd.checked) (X := fun w _ => laidMetH Tryd.prog Rows.wireTellsRow.laid w) (fun _ _ _ hh h => h.of_heap hh) seat_own started (by kernel_rfl) Tryd.func12
    (ChangeSpec.witness_shaped (enc := enc) (C := Tryd.checked) (os := os) (X := fun w _ => laidMetH Tryd.prog Rows.wireTellsRow.laid w) false (World.doorLaid Tryd.prog 400 os) #[.agg (frameC Wi.zero (.slice none 0 0)), .int .i64 0, .int .u32 0, .int .i64 0] 8 rfl (World.shaped_of_RefB (by kernel_rfl) (by kernel_rfl)) (by kernel_rfl) (by kernel_rfl) (by kernel_rfl) (door_met os _)) ?_
  intro W base args ds gs before hval hW _ hsz0 hL _
  have hsz : (DataW.weightsEach Tryd.prog (Tryd.f12.params.toList ++ Rows.wireTellsSpec.plain.varTypes Tryd.prog) (ds ++ gs)).all (· ≤ reachBytes) = true := hsz0
  clear hsz0
  have hW' := hW
  obtain ⟨p, q, hA, hV, rfl, hfz, hnd⟩ := hW
  rw [Tryd.params12] at hA hval hsz
  obtain ⟨v0, v1, v2, v3, d0, d1, d2, d3, q0, q1, q2, q3, rfl, rfl, rfl, h0, h1, h2, h3⟩ := Go.RowKit.trodAll_four hA
  obtain ⟨rfl, rfl⟩ := ChangeShapes.trodVars_none hV
  obtain ⟨x0, p0, rfl, hx0, r0, n0⟩ := open_frame (hval 0 _ v0 rfl rfl) h0 (weights_each hsz (j := 0) rfl rfl)
  obtain ⟨c1, rfl, _, _, b1⟩ := ChangeShapes.open_int (show Tryd.prog.underlying 3 = some (.int .i64) by kernel_rfl) (hval 1 _ v1 rfl rfl) h1
  have hc1 : c1 < 9223372036854775808 := by
    have h2 : IntKind.i64.min ≤ c1 ∧ c1 ≤ IntKind.i64.max := by simpa [Lit.wf] using b1
    have hM : IntKind.i64.max = 9223372036854775807 := by decide
    omega
  obtain ⟨c2, rfl, _, _, b2⟩ := ChangeShapes.open_int (show Tryd.prog.underlying 27 = some (.int .u32) by kernel_rfl) (hval 2 _ v2 rfl rfl) h2
  obtain ⟨m2, rfl, hm2⟩ := u32_wf b2
  obtain ⟨c3, rfl, _, _, b3⟩ := ChangeShapes.open_int (show Tryd.prog.underlying 3 = some (.int .i64) by kernel_rfl) (hval 3 _ v3 rfl rfl) h3
  refine (wireTells_calls c1 m2 c3 hc1 hm2 hx0 r0 (szs_of hL)).out.mono fun e W' ⟨he, hb⟩ => ⟨_, he, ?_⟩
  exact law_post (tb := 4) seat_laid rfl rfl Tryd.underlying4 (by kernel_rfl) (fun l hl => by match l, hl with | [_, _, _, _], _ => rfl) hW' hb

theorem wireTells_holds : Rows.WireTellsSaid :=
  OpenClaim.holds_of_wide 12 Tryd.f12 rfl rfl rfl rfl rfl rfl rfl ⟨rfl, rfl, rfl, rfl, rfl⟩ rfl rfl rfl rfl rfl (by kernel_rfl) Tryd.func12 (by kernel_rfl)
    (of_decide_eq_true (by kernel_rfl)) (by unfold Func.isWrapper; rw [if_neg (of_decide_eq_false (by kernel_rfl))]; exact ⟨rfl, rfl⟩)
    (fun os started H enc _ => wireTells_lifted os started H enc)

theorem wireTells_card_holds : Rows.WireTellsCardSaid :=
  Claim7.holds_tied_plain_at .later [] [.data] true (true, "28566cb8720ffb44a8cf22be5cb7755987612e1b792e1154c3f77f602c2839df") true
    wireTells_holds (fun _ h => by cases h) (by kernel_rfl) (fun _ h => by cases h) wireTells_row_tie rfl ⟨rfl, rfl⟩ (by kernel_rfl) rfl
    (fun f fn hf hfn => by
      obtain rfl : f = 12 := Option.some.inj ((show Tryd.prog.funcNamed "replica/replicalaw07.WireTells" = some 12 by kernel_rfl).symm.trans hf) |>.symm
      obtain rfl : fn = Tryd.f12 := (Option.some.inj (Tryd.func12.symm.trans hfn)).symm
      exact ⟨by kernel_rfl, fun j t ht => by
        rw [Tryd.params12] at ht
        have hm : t ∈ [50, 3, 27, 3] := by simpa using Array.mem_of_getElem? ht
        have hall : ([50, 3, 27, 3].all fun u => !Tryd.prog.wantsStandIn u) = true := by kernel_rfl
        exact (show Tryd.prog.wantsStandIn t = false by simpa using List.all_eq_true.1 hall t hm)⟩)
    (by kernel_rfl)
#print axioms wireTells_card_holds
end Go.Proofs.YtbgfoobcpacfeaaDoor
