/- What any bytes are read as: the law of both. -/
import Derived.Test.YtbgfoobcpacfeaaWRefDec
import Derived.Test.YtbgfoobcpacfeaaWFrame
namespace Go.Proofs.Ytbgfoobcpacfeaa
open Go.RowKit
set_option linter.unusedVariables false
set_option linter.unusedSimpArgs false

set_option maxRecDepth 100000 in
set_option maxHeartbeats 8000000 in
theorem wireUnframe_calls {w : World} {v : Value} {l : List UInt8} (h : RB w v l) (hl : l.length + 40 ≤ 140737488355328) :
    Pur Try.prog 4 #[v] w (.bool true) := by
  unfold Pur
  generalize hx : Wi.decFr l = x
  generalize he : Wi.decErr l = err
  have hdec : ∀ (w : World) (v : Value), RB w v l → Reads 14 #[v] w x err := fun _ _ h => by rw [← hx, ← he]; exact decodeFrame_calls h
  have href : ∀ (w : World) (v : Value), RB w v l → Reads 15 #[v] w x err := fun _ _ h => by rw [← hx, ← he]; exact refDecodeFrame_calls h
  have Hdec := Lib.hid hdec
  have Href := Lib.hid href
  clear hx he hdec href
  have h0 := h
  obtain ⟨p, c, rfl⟩ := h.form
  go_enter Try.func4, Try.ntmps4
  go_wp2_with fail
  refine (roomy_calls h hl).mono ?_
  rintro e w1 ⟨vd, rfl, ho1, hb1⟩
  go_wp2_with fail
  refine (given_calls ho1 (h.below hb1)).mono ?_
  rintro e w1' ⟨vg, rfl, rfl, hrg, hog⟩
  go_wp2_with fail
  refine (Hdec.out _ _ hrg).out.mono ?_
  rintro e w2 ⟨v1, rfl, ho2, hb2⟩
  obtain ⟨p1, c1, rfl⟩ := ho2.rb.form
  go_wp2_with fail
  have hb02 := hb1.trans (hb2.mono hb1.size)
  refine (Href.out _ _ ((h.below hb02).below (below_alloc1 _ _))).out.mono ?_
  rintro e w3 ⟨v2, rfl, ho3, hb3⟩
  rw [World.size_alloc] at ho3
  obtain ⟨p2, c2, rfl⟩ := ho3.rb.form
  go_wp2_with (first
    | (go_at_call 9; refine (num_same _ err).out.mono ?_; rintro e w6 ⟨rfl, rfl⟩)
    | fail)
  have hz2 := hb02.size
  have hz3 : w2.heap.size + 1 ≤ w3.heap.size := by have := hb3.size; simpa using this
  have hz1 := hb1.size
  have hz12 := hb2.size
  have hlt := ho1.lt
  have hb23 : Below w2.heap.size w2 w3 := (below_alloc1 w2 _).trans (hb3.mono (by simp))
  have k1 : w3.heap[w2.heap.size]? = some (.cells (frameC x (.slice p1 x.pay.length c1)) 25 (0, 0)) := blk_below (heap_new _ _ _ rfl) hb3
  have hb3' := below_alloc1 w3 (.cells (frameC x (.slice p2 x.pay.length c2)) 25)
  have k2 : (w3.alloc (.cells (frameC x (.slice p2 x.pay.length c2)) 25)).heap[w3.heap.size]? = some (.cells (frameC x (.slice p2 x.pay.length c2)) 25 (0, 0)) := heap_new _ _ _ rfl
  replace k1 := blk_below k1 hb3'
  have hod := ((ho1.below hb2).below hb23).below hb3'
  have ho1' := (ho2.below hb23).below hb3'
  have ho2' := ho3.below hb3'
  have hb03 := (hb02.trans (hb23.mono hz2)).trans (hb3'.mono (by omega))
  refine (untouched_calls hod (h0.below hb03)).out.mono ?_
  rintro e w4 ⟨rfl, hb4⟩
  replace k1 := blk_below k1 hb4
  replace k2 := blk_below k2 hb4
  replace hod := hod.below hb4
  replace ho1' := ho1'.below hb4
  replace ho2' := ho2'.below hb4
  have hz03 := hb03.size
  replace hb03 := hb03.trans (hb4.mono hz03)
  go_wp2_with fail
  refine (spoil_calls hod).mono ?_
  rintro e w5 ⟨rfl, -, hg5⟩
  have hvd : ∀ k, vd.ownBlock = some k → w.heap.size ≤ k ∧ k < w1.heap.size := fun k hk => hlt k hk
  replace k1 := blk_grown k1 hg5 (fun e => by have := hvd _ e; omega)
  replace k2 := blk_grown k2 hg5 (fun e => by have := hvd _ e; omega)
  replace ho1' := ho1'.kept hg5 (fun g e e' => by have := hvd _ e'; have := (ho2.lt g e).1; omega)
  replace ho2' := ho2'.kept hg5 (fun g e e' => by have := hvd _ e'; have := (ho3.lt g e).1; omega)
  replace hb03 := hb03.grown hg5 hb03.size (fun k hk => (hvd k hk).1)
  have hc1 := has_cell k1
  have hc2 := has_cell k2
  go_wp2_with fail
  refine (sameFrame_calls x.kind x.from_ x.to x.seq x.ack ho1'.rb ho2'.rb).out.mono ?_
  rintro e w6 ⟨rfl, hb6⟩
  go_wp2_with fail
  go_ret
  exact ⟨rfl, hb03.trans (hb6.mono hb03.size)⟩
end Go.Proofs.Ytbgfoobcpacfeaa
