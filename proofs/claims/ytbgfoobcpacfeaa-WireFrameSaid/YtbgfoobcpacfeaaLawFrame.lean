/- EncodeFrame answers the document's bytes of any frame, or the document's error, whatever the frame. -/
import Derived.Test.YtbgfoobcpacfeaaWFrame
import Derived.Test.YtbgfoobcpacfeaaLw
namespace Go.Proofs.Ytbgfoobcpacfeaa
open Go.RowKit
set_option linter.unusedVariables false
set_option linter.unusedSimpArgs false

theorem frame_leaves : leaves Try.prog 10 25 = some [.int .i64, .int .u32, .int .u32, .int .u32, .int .u32, .other 23] := by kernel_rfl

section
open Go.ChangeShapes
variable {H : Type} {enc : TypeId × Value → H} {W : World} {b base : Nat} {spare : Nat → Bool} {held : Bool}
/-- A frame that came in. -/
theorem open_frame {v : Value} {d : DataW H} {ps : List MemPlace} (hv : Value.okWide Try.prog W .any b 25 v) (h : DataW.Trod enc Try.prog W base spare held 25 v d ps) (hw : ∀ n ∈ d.weights Try.prog 25, n ≤ reachBytes) :
    ∃ (x : Wi.Fr) (vp : Value), v = .agg (frameC x vp) ∧ x.Ok ∧ RB W vp x.pay ∧ x.pay.length ≤ 140737488351232 := by
  obtain ⟨cs, rfl, hl⟩ := open_leavesW (R := reachBytes) frame_leaves (by kernel_rfl) hv h hw
  obtain ⟨k, _, rfl, _, hl⟩ := hl.int
  obtain ⟨f, _, rfl, hf, hl⟩ := hl.int
  obtain ⟨t, _, rfl, ht, hl⟩ := hl.int
  obtain ⟨s, _, rfl, hs, hl⟩ := hl.int
  obtain ⟨a, _, rfl, ha, hl⟩ := hl.int
  obtain ⟨vp, _, rfl, ⟨fuel, x, hx, hwx⟩, hl⟩ := hl.other
  obtain rfl := hl.unnil
  obtain ⟨f, rfl, hf'⟩ := u32_wf hf
  obtain ⟨t, rfl, ht'⟩ := u32_wf ht
  obtain ⟨s, rfl, hs'⟩ := u32_wf hs
  obtain ⟨a, rfl, ha'⟩ := u32_wf ha
  obtain ⟨l, hr, _, hlen⟩ := rb_of_trod hx hwx
  exact ⟨⟨k, f, t, s, a, l⟩, vp, rfl, ⟨hf', ht', hs', ha'⟩, hr, hlen⟩
end

set_option maxRecDepth 100000 in
theorem wireFrame_lifted (os : Os) (started : os.Started) (H : Type) (enc : TypeId × Value → H) :
    ReturnsInHanded {} Try.checked os 3 .any (Rows.wireFrameSpec.pre6 enc Try.prog Try.f3 Rows.wireFrameRow.domain false) (Rows.wireFrameSpec.post enc Try.prog Try.f3 false true false false) := by
  refine returnsInHanded_of_change_sized (C := Try.checked) seat_own started (by kernel_rfl) Try.func3
    (ChangeSpec.witness6 (enc := enc) (C := Try.checked) false ⟨#[], #[.agg #[.int .i64 0, .int .u32 0, .int .u32 0, .int .u32 0, .int .u32 0, .slice none 0 0]], []⟩ 8 (by kernel_rfl) (by kernel_rfl) (by kernel_rfl) (by kernel_rfl)) ?_
  intro W base args ds gs before hval hW hcnd hsz0 _
  have hsz : (DataW.weightsEach Try.prog (Try.f3.params.toList ++ Rows.wireFrameSpec.plain.varTypes Try.prog) (ds ++ gs)).all (· ≤ reachBytes) = true := hsz0
  clear hsz0
  have hW' := hW
  obtain ⟨p, q, hA, hV, rfl, hfz, hnd⟩ := hW
  rw [Try.params3] at hA hval hsz
  obtain ⟨v0, d0, p0, rfl, rfl, h0⟩ := trodAll_one hA
  obtain ⟨rfl, rfl⟩ := ChangeShapes.trodVars_none hV
  obtain ⟨x, vp, rfl, hx, hr, hlen⟩ := open_frame (hval 0 _ v0 rfl rfl) h0 (weights_each hsz (j := 0) rfl rfl)
  refine (wireFrame_calls x hr hx (by omega)).out.mono fun e W' ⟨he, hb⟩ => ⟨_, he, ?_⟩
  exact law_post (tb := 4) seat_laid rfl rfl Try.underlying4 (by kernel_rfl) (fun l hl => by match l, hl with | [_], _ => rfl) hW' hb

theorem wireFrame_holds : Rows.WireFrameSaid :=
  OpenClaim.holds_of_wide 3 Try.f3 rfl rfl rfl rfl rfl rfl rfl ⟨rfl, rfl, rfl, rfl, rfl⟩ rfl rfl rfl rfl rfl (by kernel_rfl) Try.func3 (by kernel_rfl)
    (of_decide_eq_true (by kernel_rfl)) (by unfold Func.isWrapper; rw [if_neg (of_decide_eq_false (by kernel_rfl))]; exact ⟨rfl, rfl⟩)
    (fun os started H enc _ => wireFrame_lifted os started H enc)
#print axioms wireFrame_holds
end Go.Proofs.Ytbgfoobcpacfeaa
