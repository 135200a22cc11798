/- A frame that came in. -/
import Derived.Test.YtbgfoobcpacfeaaDoorPk8
namespace Go.Proofs.YtbgfoobcpacfeaaDoor
open Go.RowKit
set_option maxRecDepth 100000
set_option linter.unusedVariables false
set_option linter.unusedSimpArgs false

theorem frame_leaves : leaves Tryd.prog 10 50 = some [.int .i64, .int .u32, .int .u32, .int .u32, .int .u32, .other 32] := by kernel_rfl

section
open Go.ChangeShapes
variable {H : Type} {enc : TypeId × Value → H} {W : World} {b base : Nat} {spare : Nat → Bool} {held : Bool}
/-- A frame that came in. -/
theorem open_frame {v : Value} {d : DataW H} {ps : List MemPlace} (hv : Value.okWide Tryd.prog W .any b 50 v) (h : DataW.Trod enc Tryd.prog W base spare held 50 v d ps) (hw : ∀ n ∈ d.weights Tryd.prog 50, n ≤ reachBytes) :
    ∃ (x : Wi.Fr) (vp : Value), v = .agg (frameC x vp) ∧ x.Ok ∧ RB W vp x.pay ∧ x.pay.length ≤ 140737488351232 := by
  obtain ⟨cs, rfl, hl⟩ := open_leavesW (R := reachBytes) frame_leaves (by kernel_rfl) hv h hw
  obtain ⟨k, _, rfl, _, hl⟩ := hl.int
  obtain ⟨f, _, rfl, hf, hl⟩ := hl.int
  obtain ⟨t, _, rfl, ht, hl⟩ := hl.int
  obtain ⟨s, _, rfl, hs, hl⟩ := hl.int
  obtain ⟨a, _, rfl, ha, hl⟩ := hl.int
  obtain ⟨vp, _, rfl, ⟨fuel, x, hx, hwx⟩, hl⟩ := hl.other
  obtain rfl := hl.unnil
  obtain ⟨f, rfl, hf'⟩ := u32_wf hf
  obtain ⟨t, rfl, ht'⟩ := u32_wf ht
  obtain ⟨s, rfl, hs'⟩ := u32_wf hs
  obtain ⟨a, rfl, ha'⟩ := u32_wf ha
  obtain ⟨l, hr, _, hlen⟩ := rb_of_trod hx hwx
  exact ⟨⟨k, f, t, s, a, l⟩, vp, rfl, ⟨hf', ht', hs', ha'⟩, hr, hlen⟩
end
end Go.Proofs.YtbgfoobcpacfeaaDoor
