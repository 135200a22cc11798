/- Resolve answers as the document says, whatever the split. -/
import Derived.Test.YtboanmhibbhceaaRefResolve3
namespace Go.Proofs.Ytboanmhibbhceaa
open Go.RowKit
set_option linter.unusedVariables false
set_option linter.unusedSimpArgs false

/-- The cells of a Split. -/
abbrev splitV (k r node sb0 sb1 sb2 ownRole peerRole ownMarked peerMarked ownFlags peerFlags : Int) : Value :=
  .agg #[.int .i64 k, .int .i64 r, .int .i64 node, .int .i64 sb0, .int .i64 sb1, .int .i64 sb2, .int .i64 ownRole, .int .i64 peerRole, .int .i64 ownMarked, .int .i64 peerMarked, .int .u32 ownFlags, .int .u32 peerFlags]

set_option maxRecDepth 100000 in
set_option maxHeartbeats 4000000 in
theorem splitResolve_calls (k r node sb0 sb1 sb2 ownRole peerRole ownMarked peerMarked ownFlags peerFlags a b c : Int) (w : World)
    (h : Spec.resolve k r (mkQ node sb0 sb1 sb2 ownRole peerRole ownMarked peerMarked ownFlags peerFlags) = (a, b, c)) :
    Pur Try.prog 20 #[splitV k r node sb0 sb1 sb2 ownRole peerRole ownMarked peerMarked ownFlags peerFlags] w (vr (a, b, c)) := by
  unfold Pur
  have H := Lib.hid h
  clear h
  go_enter Try.func20, Try.ntmps20
  go_wp2_with (first | (go_at_call 31; refine (resolve_calls _ _ _ _ _ _ _ _ _ _ _ _ _).out.mono ?_; rw [H.out]; rintro e w1 ⟨rfl, hb1⟩; obtain ⟨w2, rfl, hb3, hz0, hz1⟩ := behind_alloc2 hb1; clear hb1) | fail)
  exact bodyPost_ret (v := vr (a, b, c)) (by simp [results, Try.results20, go_sem, hz1]) rfl ⟨rfl, (by first | exact Below.refl _ _ | exact below_alloc1 _ _ | exact below_alloc2 _ _ _ | exact below_alloc3 _ _ _ _ | (repeat' (first | assumption | exact Below.refl _ _ | exact below_alloc1 _ _ | exact below_alloc2 _ _ _ | exact below_alloc3 _ _ _ _ | (refine Below.drew ?_) | (refine below_wb ?_ ?_) | (refine Below.alloc ?_ ?_ _) | omega | (simp; done) | (simp; omega))))⟩

set_option maxRecDepth 100000 in
set_option maxHeartbeats 4000000 in
theorem identResolves_calls (k r node sb0 sb1 sb2 ownRole peerRole ownMarked peerMarked ownFlags peerFlags : Int) (w : World) :
    Pur Try.prog 5 #[splitV k r node sb0 sb1 sb2 ownRole peerRole ownMarked peerMarked ownFlags peerFlags] w (.bool true) := by
  unfold Pur
  obtain ⟨a, b, c, h⟩ : ∃ a b c, Spec.resolve k r (mkQ node sb0 sb1 sb2 ownRole peerRole ownMarked peerMarked ownFlags peerFlags) = (a, b, c) := ⟨_, _, _, rfl⟩
  have H := Lib.hid h
  clear h
  go_enter Try.func5, Try.ntmps5
  go_wp2_with (first
    | (go_at_call 20; refine (splitResolve_calls _ _ _ _ _ _ _ _ _ _ _ _ a b c _ H.out).out.mono ?_; rintro e w1 ⟨rfl, hb1⟩; obtain ⟨w2, rfl, hb3, hz0⟩ := behind_alloc1 hb1; clear hb1; have hn0 := Nat.ne_of_lt hz0)
    | (go_at_call 21; refine (refResolve_calls _ _ _ _ _ _ _ _ _ _ _ _ _).out.mono ?_; rw [H.out]; rintro e w1 ⟨rfl, hb1⟩; obtain ⟨w4, rfl, hb4, hy0, hy1⟩ := behind_wb1_new (B := w.heap.size) hb1 hz0 (by omega); clear hb1; have hm0 := Nat.ne_of_lt hy0; have hm1 := Nat.ne_of_lt hy1; have hb5 := hb3.trans hb4)
    | fail)
  all_goals go_ret
  all_goals exact ⟨by first | rfl | (simp; done), (by first | exact Below.refl _ _ | exact below_alloc1 _ _ | exact below_alloc2 _ _ _ | exact below_alloc3 _ _ _ _ | (repeat' (first | assumption | exact Below.refl _ _ | exact below_alloc1 _ _ | exact below_alloc2 _ _ _ | exact below_alloc3 _ _ _ _ | (refine Below.drew ?_) | (refine below_wb ?_ ?_) | (refine Below.alloc ?_ ?_ _) | omega | (simp; done) | (simp; omega))))⟩

theorem split_leaves : leaves Try.prog 30 37 = some [.int .i64, .int .i64, .int .i64, .int .i64, .int .i64, .int .i64, .int .i64, .int .i64, .int .i64, .int .i64, .int .u32, .int .u32] := by kernel_rfl

set_option maxRecDepth 100000 in
theorem identResolves_lifted (os : Os) (started : os.Started) (H : Type) (enc : TypeId × Value → H) :
    ReturnsInHanded {} Try.checked os 5 .any (Rows.identResolvesSpec.pre6 enc Try.prog Try.f5 Rows.identResolvesRow.domain false) (Rows.identResolvesSpec.post enc Try.prog Try.f5 false true false false) := by
  refine returnsInHanded_of_change_sized (C := Try.checked) seat_own started (by kernel_rfl) Try.func5
    (ChangeSpec.witness6 (enc := enc) (C := Try.checked) false ⟨#[], #[.agg #[.int .i64 0, .int .i64 0, .int .i64 0, .int .i64 0, .int .i64 0, .int .i64 0, .int .i64 0, .int .i64 0, .int .i64 0, .int .i64 0, .int .u32 0, .int .u32 0]], []⟩ 8 (by kernel_rfl) (by kernel_rfl) (by kernel_rfl) (by kernel_rfl)) ?_
  intro W base args ds gs before hval hW hcnd hsz _
  have hW' := hW
  obtain ⟨p, q, hA, hV, rfl, hfz, hnd⟩ := hW
  rw [Try.params5] at hA hval
  obtain ⟨v0, d0, rfl, rfl, h0⟩ := ChangeShapes.trodAll_one hA
  obtain ⟨rfl, rfl⟩ := ChangeShapes.trodVars_none hV
  obtain ⟨cs, rfl, hl⟩ := open_leaves split_leaves (by kernel_rfl) (hval 0 _ v0 rfl rfl) h0
  obtain ⟨k, cs, rfl, _, hl⟩ := hl.int
  obtain ⟨r, cs, rfl, _, hl⟩ := hl.int
  obtain ⟨node, cs, rfl, _, hl⟩ := hl.int
  obtain ⟨sb0, cs, rfl, _, hl⟩ := hl.int
  obtain ⟨sb1, cs, rfl, _, hl⟩ := hl.int
  obtain ⟨sb2, cs, rfl, _, hl⟩ := hl.int
  obtain ⟨ro, cs, rfl, _, hl⟩ := hl.int
  obtain ⟨rp, cs, rfl, _, hl⟩ := hl.int
  obtain ⟨om, cs, rfl, _, hl⟩ := hl.int
  obtain ⟨pm, cs, rfl, _, hl⟩ := hl.int
  obtain ⟨of, cs, rfl, _, hl⟩ := hl.int
  obtain ⟨pf, cs, rfl, _, hl⟩ := hl.int
  obtain rfl := hl.unnil
  refine (identResolves_calls k r node sb0 sb1 sb2 ro rp om pm of pf W).out.mono fun e W' ⟨he, hb⟩ => ⟨_, he, ?_⟩
  exact law_post (tb := 4) seat_laid rfl rfl Try.underlying4 (by kernel_rfl) (fun l hl => by match l, hl with | [_], _ => rfl) hW' hb

theorem identResolves_holds : Rows.IdentResolvesSaid :=
  OpenClaim.holds_of_wide 5 Try.f5 rfl rfl rfl rfl rfl rfl rfl ⟨rfl, rfl, rfl, rfl, rfl⟩ rfl rfl rfl rfl rfl (by kernel_rfl) Try.func5 (by kernel_rfl)
    (of_decide_eq_true (by kernel_rfl)) (by unfold Func.isWrapper; rw [if_neg (of_decide_eq_false (by kernel_rfl))]; exact ⟨rfl, rfl⟩)
    (fun os started H enc _ => identResolves_lifted os started H enc)
#print axioms identResolves_holds
end Go.Proofs.Ytboanmhibbhceaa
