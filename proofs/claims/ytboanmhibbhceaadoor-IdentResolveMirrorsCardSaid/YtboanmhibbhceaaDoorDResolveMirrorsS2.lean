/- IdentResolveMirrors: a split brain, case 2. (Printed by wip/mkdoor.py.) -/
import Derived.Test.YtboanmhibbhceaaDoorDResolveMirrors
namespace Go.Proofs.YtboanmhibbhceaaDoor
open Go.RowKit
set_option linter.unusedVariables false
set_option linter.unusedSimpArgs false

set_option maxRecDepth 100000 in
set_option maxHeartbeats 40000000 in
theorem resolveMirrors_split2 (r sb0 sb1 sb2 ro rp om pm of pf a b : Int) (w : World) (hT : Turned w)
    (h1 : Spec.resolve 5 r (mkQ 1 sb0 sb1 sb2 ro rp om pm of pf) = (a, b, 0)) (h2 : Spec.resolve (Spec.mirror 5) r (mkQ 0 sb0 sb1 sb2 rp ro pm om pf of) = (Spec.mirror a, b, 0))
    (h3 : Spec.resolve 5 r (mkQ 1 0 5 0 1 0 0 0 0 0) = (1, 22, 0))
    (ha : (a = 2 ∧ (ro == 1) = false) ∨ (a = 4 ∧ (ro == 1) = false) ∨ (a = 1 ∧ (rp == 1) = false) ∨ (a = 3 ∧ (rp == 1) = false) ∨ (a = 5 ∧ b = r)) :
    Pur Tryd.prog 5 #[splitV 5 r 1 sb0 sb1 sb2 ro rp om pm of pf] w (.bool true) := by
  unfold Pur
  have H3 := Lib.hid h3
  clear h3
  go_enter Tryd.func5, Tryd.ntmps5
  go_wp2_with fail
  refine float_after_box (fun c => hT.below (below_alloc1 w c)) 25 (by kernel_rfl) (by kernel_rfl) rfl rfl (fun a w => alloc_split a w _ rfl) (fun hTW => ?_)
  (repeat (first | (apply Fl.wpR_val rfl; (focus (intro w1 hR; obtain ⟨hc, hf⟩ := bcellB hR; (try go_simp); (try exact Eq.refl _); done)); (try simp only [Act.put, List.setIfInBounds_toArray, List.set_cons_succ, List.set_cons_zero])) | (apply Fl.wpR_call rfl; (focus (intro w1 hR; obtain ⟨hc, hf⟩ := bcellB hR; (try go_simp); (try exact And.intro rfl rfl); done)); exact (by first | omega | (simp; done) | (simp; omega)); (focus (intro w1 hR; first | exact (mirror_calls _ _ _ (hTW.belowB (by simp) hR)).out)); (try simp only [Act.put, List.setIfInBounds_toArray, List.set_cons_succ, List.set_cons_zero]))))
  refine Fl.wpR_nil (fun b0 w' hw' hb00 hb01 => ?_)
  obtain ⟨w2, rfl, hb3, Lw2_0⟩ := behind_alloc1 (hw'.mono (by simp))
  clear hw'
  have Lw2_1 : b0 < w2.heap.size := by simpa only [size_wb] using hb01
  have E0 : w.heap.size ≤ w.heap.size := Nat.le_refl _
  have E1 : w.heap.size ≤ b0 := Nat.le_of_succ_le hb00
  have N01 : b0 ≠ w.heap.size := Nat.ne_of_gt hb00
  have M01 := Ne.symm N01
  have Ew2 := Nat.le_of_lt Lw2_0
  have Nw2_0 := Nat.ne_of_gt Lw2_0
  have Mw2_0 := Ne.symm Nw2_0
  have Nw2_1 := Nat.ne_of_gt Lw2_1
  have Mw2_1 := Ne.symm Nw2_1
  clear hb00 hb01

  rcases ha with ⟨rfl, e1⟩ | ⟨rfl, e1⟩ | ⟨rfl, e1⟩ | ⟨rfl, e1⟩ | ⟨rfl, rfl⟩
  all_goals
    have H1 := Lib.hid h1
    have H2 := Lib.hid h2
    clear h1 h2
    go_wp2_with (first
      | (go_at_call 13; have hg := hd3; clear hg; refine (splitResolve_calls _ _ _ 0 5 0 _ _ 0 0 0 0 _ _ _ _ H3.out).out.mono ?_; rintro e w1 ⟨rfl, hb1⟩; obtain ⟨u4, rfl, hcu4, Lu4_4, Lu4_0, Lu4_1, Lu4_2, Lu4_3⟩ := behind_wb4_new (B := w.heap.size) hb1 Lu3_0 Lu3_1 Lu3_2 Lu3_3 E0 E1 Eu1 Eu2 N01 Nu1_0 Nu2_0 Nu1_1 Nu2_1 Nu2_2; clear hb1; have Eu4 : w.heap.size ≤ u4.heap.size := Nat.le_of_lt Lu4_0; have Nu4_0 : u4.heap.size ≠ w.heap.size := Nat.ne_of_gt Lu4_0; have Mu4_0 := Ne.symm Nu4_0; have Nu4_1 : u4.heap.size ≠ b0 := Nat.ne_of_gt Lu4_1; have Mu4_1 := Ne.symm Nu4_1; have Nu4_2 : u4.heap.size ≠ u1.heap.size := Nat.ne_of_gt Lu4_2; have Mu4_2 := Ne.symm Nu4_2; have Nu4_3 : u4.heap.size ≠ u2.heap.size := Nat.ne_of_gt Lu4_3; have Mu4_3 := Ne.symm Nu4_3; have Nu4_4 : u4.heap.size ≠ u3.heap.size := Nat.ne_of_gt Lu4_4; have Mu4_4 := Ne.symm Nu4_4; have hd4 := hd3.trans hcu4)
      | (go_at_call 13; have hg := hd1; clear hg; refine (splitResolve_calls _ _ _ sb0 sb1 sb2 rp ro pm om pf of _ _ _ _ H2.out).out.mono ?_; rintro e w1 ⟨rfl, hb1⟩; obtain ⟨u2, rfl, hcu2, Lu2_2, Lu2_0, Lu2_1⟩ := behind_wb2_new (B := w.heap.size) hb1 Lu1_0 Lu1_1 E0 E1 N01; clear hb1; have Eu2 : w.heap.size ≤ u2.heap.size := Nat.le_of_lt Lu2_0; have Nu2_0 : u2.heap.size ≠ w.heap.size := Nat.ne_of_gt Lu2_0; have Mu2_0 := Ne.symm Nu2_0; have Nu2_1 : u2.heap.size ≠ b0 := Nat.ne_of_gt Lu2_1; have Mu2_1 := Ne.symm Nu2_1; have Nu2_2 : u2.heap.size ≠ u1.heap.size := Nat.ne_of_gt Lu2_2; have Mu2_2 := Ne.symm Nu2_2; have hd2 := hd1.trans hcu2)
      | (go_at_call 13; refine (splitResolve_calls _ _ _ sb0 sb1 sb2 ro rp om pm of pf _ _ _ _ H1.out).out.mono ?_; rintro e w1 ⟨rfl, hb1⟩; obtain ⟨u1, rfl, hcu1, _, Lu1_0, Lu1_1⟩ := behind_wb2 (B := w.heap.size) hb1 Lw2_0 Lw2_1 E0 E1 N01; clear hb1; have Eu1 : w.heap.size ≤ u1.heap.size := Nat.le_of_lt Lu1_0; have Nu1_0 : u1.heap.size ≠ w.heap.size := Nat.ne_of_gt Lu1_0; have Mu1_0 := Ne.symm Nu1_0; have Nu1_1 : u1.heap.size ≠ b0 := Nat.ne_of_gt Lu1_1; have Mu1_1 := Ne.symm Nu1_1; have hd1 := hb3.trans hcu1)
      | (go_at_call 12; refine (turned_calls _ _ _).out.mono ?_; rintro e w1 ⟨rfl, hb1⟩; obtain ⟨u3, rfl, hcu3, Lu3_3, Lu3_0, Lu3_1, Lu3_2⟩ := behind_wb3_new (B := w.heap.size) hb1 Lu2_0 Lu2_1 Lu2_2 E0 E1 Eu1 N01 Nu1_0 Nu1_1; clear hb1; have Eu3 : w.heap.size ≤ u3.heap.size := Nat.le_of_lt Lu3_0; have Nu3_0 : u3.heap.size ≠ w.heap.size := Nat.ne_of_gt Lu3_0; have Mu3_0 := Ne.symm Nu3_0; have Nu3_1 : u3.heap.size ≠ b0 := Nat.ne_of_gt Lu3_1; have Mu3_1 := Ne.symm Nu3_1; have Nu3_2 : u3.heap.size ≠ u1.heap.size := Nat.ne_of_gt Lu3_2; have Mu3_2 := Ne.symm Nu3_2; have Nu3_3 : u3.heap.size ≠ u2.heap.size := Nat.ne_of_gt Lu3_3; have Mu3_3 := Ne.symm Nu3_3; have hd3 := hd2.trans hcu3)
      | (go_at_call 11; go_in)
      | fail)
    all_goals go_ret
    all_goals exact ⟨by first | rfl | (simp; done) | (simp_all; done), (below_wb (below_wb (below_wb (below_wb (below_wb (Below.alloc hd4 Eu4 _) E0) E1) Eu1) Eu2) Eu3)⟩
end Go.Proofs.YtboanmhibbhceaaDoor
