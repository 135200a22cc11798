/- Resolve comes to the same on both sides, whatever the split; it never makes a primary the target, and what a policy asks for is settled: the row and the card. -/
import Derived.Test.YtboanmhibbhceaaDoorDResolveMirrors2
import Derived.Test.YtboanmhibbhceaaDoorDResolveMirrorsS1
import Derived.Test.YtboanmhibbhceaaDoorDResolveMirrorsS2
import Derived.Test.YtboanmhibbhceaaDoorDResolveMirrorsS3
import Derived.Test.YtboanmhibbhceaaDoorDResolveMirrorsS4
namespace Go.Proofs.YtboanmhibbhceaaDoor
open Go.RowKit
set_option linter.unusedVariables false
set_option linter.unusedSimpArgs false

theorem asked_mk {k r node node' : Int} (hk : k = 5 ∨ k = 6) (hn : node = 0 ∨ node = 1) (hn' : node' = 1 - node) :
    Spec.resolve k r (mkQ node 0 5 0 node node' 0 0 0 0) = ((if node = 1 then 1 else 2) + (if k = 6 then 2 else 0), 22, 0) := by
  subst hn'
  have hb : (Go.bits .and .u32 0 16 != 0) = false := by kernel_rfl
  unfold mkQ
  rw [hb]
  exact resolve_asked hk hn

theorem resolveMirrors_split (k r node node' sb0 sb1 sb2 ro rp om pm of pf a b want : Int) (w : World) (hT : Turned w)
    (h1 : Spec.resolve k r (mkQ node sb0 sb1 sb2 ro rp om pm of pf) = (a, b, 0)) (h2 : Spec.resolve (Spec.mirror k) r (mkQ node' sb0 sb1 sb2 rp ro pm om pf of) = (Spec.mirror a, b, 0))
    (h3 : Spec.resolve k r (mkQ node 0 5 0 node node' 0 0 0 0) = (want, 22, 0))
    (hn : (k = 5 ∧ node = 0 ∧ node' = 1 ∧ want = 2) ∨ (k = 5 ∧ node = 1 ∧ node' = 0 ∧ want = 1) ∨ (k = 6 ∧ node = 0 ∧ node' = 1 ∧ want = 4) ∨ (k = 6 ∧ node = 1 ∧ node' = 0 ∧ want = 3))
    (ha : (a = 2 ∧ (ro == 1) = false) ∨ (a = 4 ∧ (ro == 1) = false) ∨ (a = 1 ∧ (rp == 1) = false) ∨ (a = 3 ∧ (rp == 1) = false) ∨ (a = k ∧ b = r)) :
    Pur Tryd.prog 5 #[splitV k r node sb0 sb1 sb2 ro rp om pm of pf] w (.bool true) := by
  rcases hn with ⟨rfl, rfl, rfl, rfl⟩ | ⟨rfl, rfl, rfl, rfl⟩ | ⟨rfl, rfl, rfl, rfl⟩ | ⟨rfl, rfl, rfl, rfl⟩
  · exact resolveMirrors_split1 r sb0 sb1 sb2 ro rp om pm of pf a b w hT h1 h2 h3 ha
  · exact resolveMirrors_split2 r sb0 sb1 sb2 ro rp om pm of pf a b w hT h1 h2 h3 ha
  · exact resolveMirrors_split3 r sb0 sb1 sb2 ro rp om pm of pf a b w hT h1 h2 h3 ha
  · exact resolveMirrors_split4 r sb0 sb1 sb2 ro rp om pm of pf a b w hT h1 h2 h3 ha

theorem identResolveMirrors_calls (k r node sb0 sb1 sb2 ro rp om pm of pf : Int) (w : World) (hT : Turned w) :
    Pur Tryd.prog 5 #[splitV k r node sb0 sb1 sb2 ro rp om pm of pf] w (.bool true) := by
  by_cases hg : Spec.validQ (mkQ node sb0 sb1 sb2 ro rp om pm of pf) = 0 ∧ 0 ≤ k ∧ k ≤ 7
  · obtain ⟨hv, hk0, hk7⟩ := hg
    obtain ⟨hn, _, _, hro, hrp, _⟩ := valid_facts hv
    obtain ⟨a, b, c, h1, h2, hc, hp, hs⟩ := resolve_zz (r := r) hv hk0 hk7
    subst hc
    have hn' : node = 0 ∨ node = 1 := hn
    have hsw : swapQ (mkQ node sb0 sb1 sb2 ro rp om pm of pf) = mkQ (1 - node) sb0 sb1 sb2 rp ro pm om pf of := by
      unfold swapQ mkQ
      simp only
      rw [if_pos hn']
    rw [hsw] at h2
    by_cases h56 : k = 5 ∨ k = 6
    · refine resolveMirrors_split k r node (1 - node) sb0 sb1 sb2 ro rp om pm of pf a b _ w hT h1 h2 (asked_mk h56 hn' rfl) ?_ ?_
      · rcases h56 with rfl | rfl <;> rcases hn' with rfl | rfl <;> simp
      · rcases hs h56 with ⟨h | h, hr⟩ | ⟨h | h, hr⟩ | h
        · exact .inl ⟨h, by have : ro = 0 := hr; subst this; rfl⟩
        · exact .inr (.inl ⟨h, by have : ro = 0 := hr; subst this; rfl⟩)
        · exact .inr (.inr (.inl ⟨h, by have : rp = 0 := hr; subst this; rfl⟩))
        · exact .inr (.inr (.inr (.inl ⟨h, by have : rp = 0 := hr; subst this; rfl⟩)))
        · exact .inr (.inr (.inr (.inr h)))
    · obtain ⟨rfl, rfl⟩ := hp h56
      refine resolveMirrors_plain a b node (1 - node) sb0 sb1 sb2 ro rp om pm of pf w hT h1 h2 (by simpa using fun e => h56 (.inl e)) (by simpa using fun e => h56 (.inr e)) ?_
      rcases hn' with rfl | rfl <;> simp
  · obtain ⟨c, h1, h2, hc⟩ := resolve_bad (r := r) hg
    have hm : Spec.mirror 0 = 0 := rfl
    by_cases h0 : node = 0
    · subst h0
      exact resolveMirrors_bad k r 0 1 sb0 sb1 sb2 ro rp om pm of pf c w hT h1 (by rw [hm, ← h2]; unfold swapQ mkQ; simp) hc (.inl ⟨rfl, rfl⟩)
    by_cases h1' : node = 1
    · subst h1'
      exact resolveMirrors_bad k r 1 0 sb0 sb1 sb2 ro rp om pm of pf c w hT h1 (by rw [hm, ← h2]; unfold swapQ mkQ; simp) hc (.inr (.inl ⟨rfl, rfl⟩))
    · refine resolveMirrors_bad k r node node sb0 sb1 sb2 ro rp om pm of pf c w hT h1 ?_ hc (.inr (.inr ⟨by simpa using h0, by simpa using h1', rfl⟩))
      rw [hm, ← h2]
      unfold swapQ mkQ
      simp only
      rw [if_neg (by omega)]

theorem of_laid_r {W : World} (h : laidMetH Tryd.prog Rows.identResolveMirrorsRow.laid W) : Turned W := of_laid h

/-- The door's own heap meets the condition. -/
theorem door_met_r (os : Os) (args : Array Value) : laidMetH Tryd.prog Rows.identResolveMirrorsRow.laid ((World.doorLaid Tryd.prog 400 os).forCall (fun _ _ => 0) ⟨#[], args, []⟩).memory :=
  laidMetH_of_parts3 (fuel := 8) (laidMet_of_run' 8 (by kernel_rfl) (by kernel_rfl)) (by kernel_rfl) (by kernel_rfl)

theorem split_leaves : leaves Tryd.prog 30 33 = some [.int .i64, .int .i64, .int .i64, .int .i64, .int .i64, .int .i64, .int .i64, .int .i64, .int .i64, .int .i64, .int .u32, .int .u32] := by kernel_rfl

set_option maxRecDepth 100000 in
theorem identResolveMirrors_lifted (os : Os) (started : os.Started) (H : Type) (enc : TypeId × Value → H) :
    ReturnsInHanded {} Tryd.checked os 5 .any (fun w args => (Rows.identResolveMirrorsSpec.pre enc Tryd.prog Tryd.f5 [] false w args ∧ laidMetH Tryd.prog Rows.identResolveMirrorsRow.laid w) ∧ sizedMet enc Tryd.prog Tryd.f5 (OpenSpec.ofChange Rows.identResolveMirrorsSpec) false w args)
      (Rows.identResolveMirrorsSpec.post enc Tryd.prog Tryd.f5 false true false false) := by
  refine returnsInHanded_of_change_and (C := Tryd.checked) (X := fun w _ => laidMetH Tryd.prog Rows.identResolveMirrorsRow.laid w) (fun _ _ _ hh h => h.of_heap hh) seat_own started (by kernel_rfl) Tryd.func5
    (ChangeSpec.witness_shaped (enc := enc) (C := Tryd.checked) (os := os) (X := fun w _ => laidMetH Tryd.prog Rows.identResolveMirrorsRow.laid w) false (World.doorLaid Tryd.prog 400 os) #[splitV 0 0 0 0 0 0 0 0 0 0 0 0] 8 rfl (World.shaped_of_RefB (by kernel_rfl) (by kernel_rfl)) (by kernel_rfl) (by kernel_rfl) (by kernel_rfl) (door_met_r os _)) ?_
  intro W base args ds gs before hval hW _ _ hL _
  have hW' := hW
  obtain ⟨p, q, hA, hV, rfl, hfz, hnd⟩ := hW
  rw [Tryd.params5] at hA hval
  obtain ⟨v0, d0, rfl, rfl, h0⟩ := ChangeShapes.trodAll_one hA
  obtain ⟨rfl, rfl⟩ := ChangeShapes.trodVars_none hV
  obtain ⟨cs, rfl, hl⟩ := open_leaves split_leaves (by kernel_rfl) (hval 0 _ v0 rfl rfl) h0
  obtain ⟨k, cs, rfl, _, hl⟩ := hl.int
  obtain ⟨r, cs, rfl, _, hl⟩ := hl.int
  obtain ⟨node, cs, rfl, _, hl⟩ := hl.int
  obtain ⟨sb0, cs, rfl, _, hl⟩ := hl.int
  obtain ⟨sb1, cs, rfl, _, hl⟩ := hl.int
  obtain ⟨sb2, cs, rfl, _, hl⟩ := hl.int
  obtain ⟨ro, cs, rfl, _, hl⟩ := hl.int
  obtain ⟨rp, cs, rfl, _, hl⟩ := hl.int
  obtain ⟨om, cs, rfl, _, hl⟩ := hl.int
  obtain ⟨pm, cs, rfl, _, hl⟩ := hl.int
  obtain ⟨of, cs, rfl, _, hl⟩ := hl.int
  obtain ⟨pf, cs, rfl, _, hl⟩ := hl.int
  obtain rfl := hl.unnil
  refine (identResolveMirrors_calls k r node sb0 sb1 sb2 ro rp om pm of pf W (of_laid_r hL)).out.mono fun e W' ⟨he, hb⟩ => ⟨_, he, ?_⟩
  exact law_post (tb := 4) seat_laid rfl rfl Tryd.underlying4 (by kernel_rfl) (fun l hl => by match l, hl with | [_], _ => rfl) hW' hb

theorem identResolveMirrors_holds : Rows.IdentResolveMirrorsSaid :=
  OpenClaim.holds_of_wide 5 Tryd.f5 rfl rfl rfl rfl rfl rfl rfl ⟨rfl, rfl, rfl, rfl, rfl⟩ rfl rfl rfl rfl rfl (by kernel_rfl) Tryd.func5 (by kernel_rfl)
    (of_decide_eq_true (by kernel_rfl)) (by unfold Func.isWrapper; rw [if_neg (of_decide_eq_false (by kernel_rfl))]; exact ⟨rfl, rfl⟩)
    (fun os started H enc _ => identResolveMirrors_lifted os started H enc)

theorem identResolveMirrors_card_holds : Rows.IdentResolveMirrorsCardSaid :=
  Claim7.holds_tied_plain_at .later [] [.data] true (true, "3962796939dbe3fbf62156f2ce1f1dae7f35d2bf3dac168972bdf1619e62005a") false
    identResolveMirrors_holds (fun _ h => by cases h) (by kernel_rfl) (fun _ h => by cases h) identResolveMirrors_row_tie rfl ⟨rfl, rfl⟩ (by kernel_rfl) rfl
    (fun f fn hf hfn => by
      obtain rfl : f = 5 := Option.some.inj ((show Tryd.prog.funcNamed "replica/replicalaw06.IdentResolveMirrors" = some 5 by kernel_rfl).symm.trans hf) |>.symm
      obtain rfl : fn = Tryd.f5 := (Option.some.inj (Tryd.func5.symm.trans hfn)).symm
      exact ⟨by kernel_rfl, fun j t ht => by
        rw [Tryd.params5] at ht
        have hm : t ∈ [33] := by simpa using Array.mem_of_getElem? ht
        have hall : ([33].all fun u => !Tryd.prog.wantsStandIn u) = true := by kernel_rfl
        exact (show Tryd.prog.wantsStandIn t = false by simpa using List.all_eq_true.1 hall t hm)⟩)
    (by kernel_rfl)
#print axioms identResolveMirrors_card_holds
end Go.Proofs.YtboanmhibbhceaaDoor
