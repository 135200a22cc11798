/- Settle and Mirror answer as the document says, whatever the verdict and the disks. -/
import Derived.Test.YtboanmhibbhceaaDoorRefSettle
import Derived.Test.YtboanmhibbhceaaDoorDMirror
import Derived.Test.YtboanmhibbhceaaDoorCards
import Derived.Test.YtboanmhibbhceaaDoorTie
import Derived.LaidMore
import Derived.SevenTiedAt
namespace Go.Proofs.YtboanmhibbhceaaDoor
open Go.RowKit
set_option linter.unusedVariables false
set_option linter.unusedSimpArgs false

abbrev verV (k r : Int) : Value := .agg #[.int .i64 k, .int .i64 r]

set_option maxRecDepth 100000 in
set_option maxHeartbeats 4000000 in
theorem identSettles_calls (k r own peer : Int) (w : World) (hT : Turned w) :
    Pur Tryd.prog 3 #[verV k r, .int .i64 own, .int .i64 peer] w (.bool true) := by
  unfold Pur
  obtain ⟨a, b, c, h⟩ : ∃ a b c, Spec.settle k r own peer = (a, b, c) := ⟨_, _, _, rfl⟩
  have H := Lib.hid h
  clear h
  go_enter Tryd.func3, Tryd.ntmps3
  go_wp2_with (first
    | (go_at_call 7; refine (settle_calls _ _ _ _ _).out.mono ?_; rw [H.out]; rintro e w1 ⟨rfl, hb1⟩; obtain ⟨w2, rfl, hb3, hz0⟩ := behind_alloc1 hb1; clear hb1; have hn0 := Nat.ne_of_lt hz0)
    | (go_at_call 8; refine (refSettle_calls _ _ _ _ _).out.mono ?_; rw [H.out]; rintro e w1 ⟨rfl, hb1⟩; obtain ⟨w4, rfl, hb4, hy0, hy1⟩ := behind_wb1_new (B := w.heap.size) hb1 hz0 (by omega); clear hb1; have hm0 := Nat.ne_of_lt hy0; have hm1 := Nat.ne_of_lt hy1; have hb5 := hb3.trans hb4)
    | fail)
  have hn0s := Ne.symm hn0
  have hBW : Below w.heap.size w (((w4.alloc (.cells #[.int .i64 a, .int .i64 b] 23)).wb w.heap.size #[.int .i64 k, .int .i64 r] 23).wb w2.heap.size #[.int .i64 a, .int .i64 b] 23) := below_wb (below_wb (Below.alloc hb5 (by omega) _) (by omega)) (by omega)
  have hT2 := hT.below hBW
  refine wp_region_R (Below (w4.heap.size + 1) (((w4.alloc (.cells #[.int .i64 a, .int .i64 b] 23)).wb w.heap.size #[.int .i64 k, .int .i64 r] 23).wb w2.heap.size #[.int .i64 a, .int .i64 b] 23)) (by kernel_rfl) (by kernel_rfl) (by first | exact Below.refl _ _ | exact below_alloc1 _ _ | exact below_alloc2 _ _ _ | exact below_alloc3 _ _ _ _ | (repeat' (first | assumption | exact Below.refl _ _ | exact below_alloc1 _ _ | exact below_alloc2 _ _ _ | exact below_alloc3 _ _ _ _ | (refine Below.drew ?_) | (refine below_wb ?_ ?_) | (refine Below.alloc ?_ ?_ _) | omega | (simp; done) | (simp; omega)))) ?_
  (repeat (first | (apply wpR_pass rfl; (try simp only [Act.put, List.setIfInBounds_toArray, List.set_cons_succ, List.set_cons_zero])) | (apply wpR_val rfl; (focus (intro w1 hR; obtain ⟨hc, hf⟩ := bcellB hR; (try go_simp); (try exact Eq.refl _); done)); (try simp only [Act.put, List.setIfInBounds_toArray, List.set_cons_succ, List.set_cons_zero])) | (apply wpR_call rfl; (focus (intro w1 hR; obtain ⟨hc, hf⟩ := bcellB hR; (try go_simp); (try exact And.intro rfl rfl); done)); (focus (intro w1 hR; first | exact (mirror_calls k r _ (hT2.belowB (by simp) hR)).at_ (by first | omega | (simp; done) | (simp; omega)) hR | exact (refMirror_calls k r _).at_ (by first | omega | (simp; done) | (simp; omega)) hR)); (try simp only [Act.put, List.setIfInBounds_toArray, List.set_cons_succ, List.set_cons_zero])) | (apply wpR_val_want rfl; (focus (intro w1 hR; obtain ⟨hc, hf⟩ := bcellB hR; (try go_simp); (try exact Eq.refl _); done)); (try simp only [Act.put, List.setIfInBounds_toArray, List.set_cons_succ, List.set_cons_zero])) | (apply wpR_call_want rfl; (focus (intro w1 hR; obtain ⟨hc, hf⟩ := bcellB hR; (try go_simp); (try exact And.intro rfl rfl); done)); (focus (intro w1 hR; first | exact (mirror_calls k r _ (hT2.belowB (by simp) hR)).at_ (by first | omega | (simp; done) | (simp; omega)) hR | exact (refMirror_calls k r _).at_ (by first | omega | (simp; done) | (simp; omega)) hR)); (try simp only [Act.put, List.setIfInBounds_toArray, List.set_cons_succ, List.set_cons_zero]))))
  refine wpR_nil (fun w' hw' => ?_)
  go_wp2_with fail
  go_ret
  exact ⟨rfl, hBW.trans (hw'.mono (by omega))⟩

theorem gT : Tryd.prog.globalNamed "replica/ident.turned" = some 0 := by kernel_rfl
theorem tT : (Tryd.prog.globals[0]?).map (·.type) = some 45 := by kernel_rfl
theorem u3 : Tryd.prog.underlying 3 = some (.int .i64) := by kernel_rfl
theorem u44 : Tryd.prog.underlying 44 = some (.array 2 3) := by kernel_rfl
theorem u45 : Tryd.prog.underlying 45 = some (.array 4 44) := by kernel_rfl
theorem cells3 : Tryd.prog.cellsOf 3 = 1 := by kernel_rfl
theorem cells44 : Tryd.prog.cellsOf 44 = 2 := by kernel_rfl
theorem cells45 : Tryd.prog.cellsOf 45 = 8 := by kernel_rfl

theorem trod_pair {H : Type} {enc : TypeId × Value → H} {w : World} {base : Nat} {sp : Nat → Bool} {held : Bool} {fuel : Nat} {cs : List Value} {x : DataW H × List MemPlace} {a b : Int}
    (h : DataW.trod enc Tryd.prog w base sp held fuel 44 cs = some x) (hx : x.1 = .agg [.lit (.int .i64 a), .lit (.int .i64 b)]) : cs = [.int .i64 a, .int .i64 b] := by
  obtain ⟨xs, m, rfl, rfl, hl, hn, hel⟩ := DataW.trod_array u44 h
  rw [cells44] at hl
  match xs, hn, hx, hel with
  | [x0, x1], _, hx, hel =>
    have e0 := hel 0 (by decide)
    have e1 := hel 1 (by decide)
    simp only [cells3] at e0 e1
    match cs, hl with
    | [c0, c1], _ =>
      simp only [List.map_cons, List.map_nil, DataW.agg.injEq, List.cons.injEq] at hx
      obtain ⟨n0, q0, r0, _⟩ := DataW.trod_int u3 (show DataW.trod enc Tryd.prog w base sp held m 3 [c0] = some x0 from e0)
      obtain ⟨n1, q1, r1, _⟩ := DataW.trod_int u3 (show DataW.trod enc Tryd.prog w base sp held m 3 [c1] = some x1 from e1)
      rw [r0, r1] at hx
      simp at hx q0 q1
      rw [q0, q1, hx.1, hx.2]

theorem of_laid {W : World} (h : laidMetH Tryd.prog Rows.identSettlesRow.laid W) : Turned W := by
  rw [MakeChecks.laidMetH_plain _ _ _ (by kernel_rfl)] at h
  obtain ⟨ps, ⟨g0, t0, cs0, f0, p0, q0, hg0, ht0, hv0, hd0, _, _⟩, _, _⟩ := h
  obtain rfl := Option.some.inj (gT.symm.trans hg0)
  obtain rfl := Option.some.inj (tT.symm.trans ht0)
  obtain ⟨xs, m, rfl, hx, hl, hn, hel⟩ := DataW.trod_array u45 hd0
  rw [cells45] at hl
  obtain ⟨l⟩ := cs0
  simp only [Prod.mk.injEq] at hx
  replace hx := hx.1
  unfold Rows.laid_replica_ident_turned at hx
  match xs, hn, hx, hel with
  | [x0, x1, x2, x3], _, hx, hel =>
    simp only [List.map_cons, List.map_nil, DataW.agg.injEq, List.cons.injEq] at hx
    have e0 := hel 0 (by decide)
    have e1 := hel 1 (by decide)
    have e2 := hel 2 (by decide)
    have e3 := hel 3 (by decide)
    simp only [cells44] at e0 e1 e2 e3
    match l, hl with
    | [c0, c1, c2, c3, c4, c5, c6, c7], _ =>
      have f0 := trod_pair (cs := [c0, c1]) e0 hx.1.symm
      have f1 := trod_pair (cs := [c2, c3]) e1 hx.2.1.symm
      have f2 := trod_pair (cs := [c4, c5]) e2 hx.2.2.1.symm
      have f3 := trod_pair (cs := [c6, c7]) e3 hx.2.2.2.1.symm
      simp only [List.cons.injEq, and_true] at f0 f1 f2 f3
      have hv := World.var?_cell hg0 hv0
      have hc0 : W.cell? ⟨0, 0, none⟩ = some (.int .i64 1) := by rw [hv 0]; simp [f0]
      refine ⟨?_, hc0, ?_, ?_, ?_, ?_, ?_, ?_, ?_⟩
      · by_cases hz : 0 < W.heap.size
        · exact hz
        · exfalso
          have : W.heap[0]? = none := Array.getElem?_eq_none (by omega)
          simp [World.cell?, this] at hc0
      · rw [hv 1]; simp [f0]
      · rw [hv 2]; simp [f1]
      · rw [hv 3]; simp [f1]
      · rw [hv 4]; simp [f2]
      · rw [hv 5]; simp [f2]
      · rw [hv 6]; simp [f3]
      · rw [hv 7]; simp [f3]

/-- The door's own heap meets the condition. -/
theorem door_met (os : Os) (args : Array Value) : laidMetH Tryd.prog Rows.identSettlesRow.laid ((World.doorLaid Tryd.prog 400 os).forCall (fun _ _ => 0) ⟨#[], args, []⟩).memory :=
  laidMetH_of_parts3 (fuel := 8) (laidMet_of_run' 8 (by kernel_rfl) (by kernel_rfl)) (by kernel_rfl) (by kernel_rfl)

theorem ver_leaves : leaves Tryd.prog 30 23 = some [.int .i64, .int .i64] := by kernel_rfl

set_option maxRecDepth 100000 in
theorem identSettles_lifted (os : Os) (started : os.Started) (H : Type) (enc : TypeId × Value → H) :
    ReturnsInHanded {} Tryd.checked os 3 .any (fun w args => (Rows.identSettlesSpec.pre enc Tryd.prog Tryd.f3 [] false w args ∧ laidMetH Tryd.prog Rows.identSettlesRow.laid w) ∧ sizedMet enc Tryd.prog Tryd.f3 (OpenSpec.ofChange Rows.identSettlesSpec) false w args)
      (Rows.identSettlesSpec.post enc Tryd.prog Tryd.f3 false true false false) := by
  refine returnsInHanded_of_change_and (C := Tryd.checked) (X := fun w _ => laidMetH Tryd.prog Rows.identSettlesRow.laid w) (fun _ _ _ hh h => h.of_heap hh) seat_own started (by kernel_rfl) Tryd.func3
    (ChangeSpec.witness_shaped (enc := enc) (C := Tryd.checked) (os := os) (X := fun w _ => laidMetH Tryd.prog Rows.identSettlesRow.laid w) false (World.doorLaid Tryd.prog 400 os) #[verV 0 0, .int .i64 0, .int .i64 0] 8 rfl (World.shaped_of_RefB (by kernel_rfl) (by kernel_rfl)) (by kernel_rfl) (by kernel_rfl) (by kernel_rfl) (door_met os _)) ?_
  intro W base args ds gs before hval hW _ _ hL _
  have hW' := hW
  obtain ⟨p, q, hA, hV, rfl, hfz, hnd⟩ := hW
  rw [Tryd.params3] at hA hval
  obtain ⟨v0, v1, v2, d0, d1, d2, p0, p1, p2, rfl, rfl, _, h0, h1, h2⟩ := ChangeShapes.trodAll_three hA
  obtain ⟨rfl, rfl⟩ := ChangeShapes.trodVars_none hV
  obtain ⟨cs, rfl, hl⟩ := open_leaves ver_leaves (by kernel_rfl) (hval 0 _ v0 rfl rfl) h0
  obtain ⟨k, cs, rfl, _, hl⟩ := hl.int
  obtain ⟨r, cs, rfl, _, hl⟩ := hl.int
  obtain rfl := hl.unnil
  obtain ⟨own, rfl, _, _, _⟩ := ChangeShapes.open_int u3 (hval 1 _ v1 rfl rfl) h1
  obtain ⟨peer, rfl, _, _, _⟩ := ChangeShapes.open_int u3 (hval 2 _ v2 rfl rfl) h2
  refine (identSettles_calls k r own peer W (of_laid hL)).out.mono fun e W' ⟨he, hb⟩ => ⟨_, he, ?_⟩
  exact law_post (tb := 4) seat_laid rfl rfl Tryd.underlying4 (by kernel_rfl) (fun l hl => by match l, hl with | [_, _, _], _ => rfl) hW' hb

theorem identSettles_holds : Rows.IdentSettlesSaid :=
  OpenClaim.holds_of_wide 3 Tryd.f3 rfl rfl rfl rfl rfl rfl rfl ⟨rfl, rfl, rfl, rfl, rfl⟩ rfl rfl rfl rfl rfl (by kernel_rfl) Tryd.func3 (by kernel_rfl)
    (of_decide_eq_true (by kernel_rfl)) (by unfold Func.isWrapper; rw [if_neg (of_decide_eq_false (by kernel_rfl))]; exact ⟨rfl, rfl⟩)
    (fun os started H enc _ => identSettles_lifted os started H enc)

theorem identSettles_card_holds : Rows.IdentSettlesCardSaid :=
  Claim7.holds_tied_plain_at .later [] [.data] true (true, "3962796939dbe3fbf62156f2ce1f1dae7f35d2bf3dac168972bdf1619e62005a") false
    identSettles_holds (fun _ h => by cases h) (by kernel_rfl) (fun _ h => by cases h) identSettles_row_tie rfl ⟨rfl, rfl⟩ (by kernel_rfl) rfl
    (fun f fn hf hfn => by
      obtain rfl : f = 3 := Option.some.inj ((show Tryd.prog.funcNamed "replica/replicalaw06.IdentSettles" = some 3 by kernel_rfl).symm.trans hf) |>.symm
      obtain rfl : fn = Tryd.f3 := (Option.some.inj (Tryd.func3.symm.trans hfn)).symm
      exact ⟨by kernel_rfl, fun j t ht => by
        rw [Tryd.params3] at ht
        have hm : t ∈ [23, 3, 3] := by simpa using Array.mem_of_getElem? ht
        have hall : ([23, 3, 3].all fun u => !Tryd.prog.wantsStandIn u) = true := by kernel_rfl
        exact (show Tryd.prog.wantsStandIn t = false by simpa using List.all_eq_true.1 hall t hm)⟩)
    (by kernel_rfl)
#print axioms identSettles_card_holds
end Go.Proofs.YtboanmhibbhceaaDoor
