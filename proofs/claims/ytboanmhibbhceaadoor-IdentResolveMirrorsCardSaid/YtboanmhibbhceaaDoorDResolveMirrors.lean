/- IdentResolveMirrors: its walks, case by case. -/
import Derived.Test.YtboanmhibbhceaaDoorDResolvePlain
import Derived.Test.YtboanmhibbhceaaDoorDLaid
import Derived.Test.YtboanmhibbhceaaDoorRegF
namespace Go.Proofs.YtboanmhibbhceaaDoor
open Go.RowKit
set_option linter.unusedVariables false
set_option linter.unusedSimpArgs false

/-- The cells of a Split. -/
abbrev splitC (k r node sb0 sb1 sb2 ownRole peerRole ownMarked peerMarked ownFlags peerFlags : Int) : Array Value :=
  #[.int .i64 k, .int .i64 r, .int .i64 node, .int .i64 sb0, .int .i64 sb1, .int .i64 sb2, .int .i64 ownRole, .int .i64 peerRole, .int .i64 ownMarked, .int .i64 peerMarked, .int .u32 ownFlags, .int .u32 peerFlags]
abbrev splitV (k r node sb0 sb1 sb2 ownRole peerRole ownMarked peerMarked ownFlags peerFlags : Int) : Value :=
  .agg (splitC k r node sb0 sb1 sb2 ownRole peerRole ownMarked peerMarked ownFlags peerFlags)

set_option maxRecDepth 100000 in
set_option maxHeartbeats 4000000 in
theorem splitResolve_calls (k r node sb0 sb1 sb2 ownRole peerRole ownMarked peerMarked ownFlags peerFlags a b c : Int) (w : World)
    (h : Spec.resolve k r (mkQ node sb0 sb1 sb2 ownRole peerRole ownMarked peerMarked ownFlags peerFlags) = (a, b, c)) :
    Pur Tryd.prog 13 #[splitV k r node sb0 sb1 sb2 ownRole peerRole ownMarked peerMarked ownFlags peerFlags] w (vr (a, b, c)) := by
  unfold Pur
  have H := Lib.hid h
  clear h
  go_enter Tryd.func13, Tryd.ntmps13
  go_wp2_with (first | (go_at_call 19; refine (resolve_calls _ _ _ _ _ _ _ _ _ _ _ _ _).out.mono ?_; rw [H.out]; rintro e w1 ⟨rfl, hb1⟩; obtain ⟨w2, rfl, hb3, hz0, hz1⟩ := behind_alloc2 hb1; clear hb1) | fail)
  exact bodyPost_ret (v := vr (a, b, c)) (by simp [results, Tryd.results13, go_sem, hz1]) rfl ⟨rfl, (by first | exact Below.refl _ _ | exact below_alloc1 _ _ | exact below_alloc2 _ _ _ | exact below_alloc3 _ _ _ _ | (repeat' (first | assumption | exact Below.refl _ _ | exact below_alloc1 _ _ | exact below_alloc2 _ _ _ | exact below_alloc3 _ _ _ _ | (refine Below.drew ?_) | (refine below_wb ?_ ?_) | (refine Below.alloc ?_ ?_ _) | omega | (simp; done) | (simp; omega))))⟩

/-- The drawn region right behind the parameter's box: the mirrored split is laid out. -/
theorem float_after_box {id : Nat} {Q : Exit → Act → World → Prop} {a : Act} {w : World} {o : Obj} {l : List Oper} (hT : ∀ o, Turned (w.alloc o)) (k : Nat) {ok : Oper} {s : Tmp} {T : TypeId} {c0 : Array Value}
    (hm : Tryd.prog.follows .mixedOrders = true) (hB : Fl.floatB l.toArray k = true) (hk : l.toArray[k]? = some ok) (hkd : ok.dst = some s)
    (hx : ∀ (a : Act) (w : World), (execOp a.eval ok).run Tryd.prog w = .ok (.value (Fl.ptr w.heap.size)) (w.alloc (.cells c0 T)))
    (h : Turned (w.alloc o) → Fl.wpR Tryd.prog l.toArray (Below (w.heap.size + 1) (w.alloc o)) (fun a' => ∀ b w', Below (w.heap.size + 1) (w.alloc o) w' → w.heap.size + 1 ≤ b → b < w'.heap.size → wpList Tryd.prog l.toArray Q (l.drop (k + 1)) (a'.put (some s) (Fl.ptr b)) (w'.wb b c0 T)) (l.take k) a) :
    (Code.region id l.toArray true).wp Tryd.prog Q a (w.alloc o) :=
  Fl.wp_region_float (B := w.heap.size + 1) (W := w.alloc o) k hm hB hk hkd hx (by simp) (Below.drew (Below.refl _ _)) (h (hT o))

theorem alloc_split (a : Act) (w : World) (o : Oper) (ho : o.op = Op.alloc 33) : (execOp a.eval o).run Tryd.prog w = .ok (.value (Fl.ptr w.heap.size)) (w.alloc (.cells (splitC 0 0 0 0 0 0 0 0 0 0 0 0) 33)) := by
  unfold execOp
  rw [ho]
  rfl

set_option maxRecDepth 100000 in
set_option maxHeartbeats 8000000 in
theorem resolveMirrors_bad (k r node node' sb0 sb1 sb2 ro rp om pm of pf c : Int) (w : World) (hT : Turned w)
    (h1 : Spec.resolve k r (mkQ node sb0 sb1 sb2 ro rp om pm of pf) = (0, 0, c)) (h2 : Spec.resolve (Spec.mirror k) r (mkQ node' sb0 sb1 sb2 rp ro pm om pf of) = (Spec.mirror 0, 0, c)) (hc : (c != 0) = true)
    (hn : (node = 0 ∧ node' = 1) ∨ (node = 1 ∧ node' = 0) ∨ ((node != 0) = true ∧ (node != 1) = true ∧ node' = node)) :
    Pur Tryd.prog 5 #[splitV k r node sb0 sb1 sb2 ro rp om pm of pf] w (.bool true) := by
  unfold Pur
  have H1 := Lib.hid h1
  have H2 := Lib.hid h2
  clear h1 h2
  rcases hn with ⟨rfl, rfl⟩ | ⟨rfl, rfl⟩ | ⟨e1, e2, rfl⟩
  all_goals
    go_enter Tryd.func5, Tryd.ntmps5
    go_wp2_with fail
    refine float_after_box (fun c => hT.below (below_alloc1 w c)) 25 (by kernel_rfl) (by kernel_rfl) rfl rfl (fun a w => alloc_split a w _ rfl) (fun hTW => ?_)
    (repeat (first | (apply Fl.wpR_val rfl; (focus (intro w1 hR; obtain ⟨hc, hf⟩ := bcellB hR; (try go_simp); (try exact Eq.refl _); done)); (try simp only [Act.put, List.setIfInBounds_toArray, List.set_cons_succ, List.set_cons_zero])) | (apply Fl.wpR_call rfl; (focus (intro w1 hR; obtain ⟨hc, hf⟩ := bcellB hR; (try go_simp); (try exact And.intro rfl rfl); done)); exact (by first | omega | (simp; done) | (simp; omega)); (focus (intro w1 hR; first | exact (mirror_calls k r _ (hTW.belowB (by simp) hR)).out)); (try simp only [Act.put, List.setIfInBounds_toArray, List.set_cons_succ, List.set_cons_zero]))))
    refine Fl.wpR_nil (fun b0 w' hw' hb00 hb01 => ?_)
    obtain ⟨w2, rfl, hb3, Lw2_0⟩ := behind_alloc1 (hw'.mono (by simp))
    clear hw'
    have Lw2_1 : b0 < w2.heap.size := by simpa only [size_wb] using hb01
    have E0 : w.heap.size ≤ w.heap.size := Nat.le_refl _
    have E1 : w.heap.size ≤ b0 := Nat.le_of_succ_le hb00
    have N01 : b0 ≠ w.heap.size := Nat.ne_of_gt hb00
    have M01 := Ne.symm N01
    have Ew2 := Nat.le_of_lt Lw2_0
    have Nw2_0 := Nat.ne_of_gt Lw2_0
    have Mw2_0 := Ne.symm Nw2_0
    have Nw2_1 := Nat.ne_of_gt Lw2_1
    have Mw2_1 := Ne.symm Nw2_1
    clear hb00 hb01
    go_wp2_with (first
      | (go_at_call 13; have hg := hd1; clear hg; refine (splitResolve_calls (Spec.mirror k) r _ sb0 sb1 sb2 rp ro pm om pf of _ _ _ _ H2.out).out.mono ?_; rintro e w1 ⟨rfl, hb1⟩; obtain ⟨u2, rfl, hcu2, Lu2_2, Lu2_0, Lu2_1⟩ := behind_wb2_new (B := w.heap.size) hb1 Lu1_0 Lu1_1 E0 E1 N01; clear hb1; have Eu2 : w.heap.size ≤ u2.heap.size := Nat.le_of_lt Lu2_0; have Nu2_0 : u2.heap.size ≠ w.heap.size := Nat.ne_of_gt Lu2_0; have Mu2_0 := Ne.symm Nu2_0; have Nu2_1 : u2.heap.size ≠ b0 := Nat.ne_of_gt Lu2_1; have Mu2_1 := Ne.symm Nu2_1; have Nu2_2 : u2.heap.size ≠ u1.heap.size := Nat.ne_of_gt Lu2_2; have Mu2_2 := Ne.symm Nu2_2; have hd2 := hd1.trans hcu2)
      | (go_at_call 13; refine (splitResolve_calls k r _ sb0 sb1 sb2 ro rp om pm of pf _ _ _ _ H1.out).out.mono ?_; rintro e w1 ⟨rfl, hb1⟩; obtain ⟨u1, rfl, hcu1, _, Lu1_0, Lu1_1⟩ := behind_wb2 (B := w.heap.size) hb1 Lw2_0 Lw2_1 E0 E1 N01; clear hb1; have Eu1 : w.heap.size ≤ u1.heap.size := Nat.le_of_lt Lu1_0; have Nu1_0 : u1.heap.size ≠ w.heap.size := Nat.ne_of_gt Lu1_0; have Mu1_0 := Ne.symm Nu1_0; have Nu1_1 : u1.heap.size ≠ b0 := Nat.ne_of_gt Lu1_1; have Mu1_1 := Ne.symm Nu1_1; have hd1 := hb3.trans hcu1)
      | (go_at_call 12; refine (turned_calls _ _ _).out.mono ?_; rintro e w1 ⟨rfl, hb1⟩; obtain ⟨u3, rfl, hcu3, Lu3_3, Lu3_0, Lu3_1, Lu3_2⟩ := behind_wb3_new (B := w.heap.size) hb1 Lu2_0 Lu2_1 Lu2_2 E0 E1 Eu1 N01 Nu1_0 Nu1_1; clear hb1; have Eu3 : w.heap.size ≤ u3.heap.size := Nat.le_of_lt Lu3_0; have Nu3_0 : u3.heap.size ≠ w.heap.size := Nat.ne_of_gt Lu3_0; have Mu3_0 := Ne.symm Nu3_0; have Nu3_1 : u3.heap.size ≠ b0 := Nat.ne_of_gt Lu3_1; have Mu3_1 := Ne.symm Nu3_1; have Nu3_2 : u3.heap.size ≠ u1.heap.size := Nat.ne_of_gt Lu3_2; have Mu3_2 := Ne.symm Nu3_2; have Nu3_3 : u3.heap.size ≠ u2.heap.size := Nat.ne_of_gt Lu3_3; have Mu3_3 := Ne.symm Nu3_3; have hd3 := hd2.trans hcu3)
      | (go_at_call 11; go_in)
      | fail)
    all_goals go_ret
    all_goals exact ⟨by first | rfl | (simp; done) | (simp_all; done), (below_wb (below_wb (below_wb (below_wb hd3 E0) E1) Eu1) Eu2)⟩
end Go.Proofs.YtboanmhibbhceaaDoor
