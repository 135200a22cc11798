/- The bytes of any frame, or why there are none: both, at any frame; and the law of it. -/
import Derived.Test.YtbgfoobcpacfeaaWRefEnc
namespace Go.Proofs.Ytbgfoobcpacfeaa
open Go.RowKit
set_option linter.unusedVariables false
set_option linter.unusedSimpArgs false

/-- A call that answers bytes of its own and a number. -/
def Makes (f : FuncId) (args : Array Value) (w : World) (l : List UInt8) (err : Int) : Prop :=
  Calls Try.prog f args w fun e w' => ∃ v', e = .returned (.tuple #[v', .int .i64 err]) ∧ OB w.heap.size w' v' l ∧ Below w.heap.size w w'
theorem Makes.out {f : FuncId} {args : Array Value} {w : World} {l : List UInt8} {err : Int} (h : Makes f args w l err) :
  Calls Try.prog f args w fun e w' => ∃ v', e = .returned (.tuple #[v', .int .i64 err]) ∧ OB w.heap.size w' v' l ∧ Below w.heap.size w w' := h

theorem encodeFrame_calls {w : World} {v : Value} (x : Wi.Fr) (h : RB w v x.pay) (hx : x.Ok) :
    Makes 7 #[.agg (frameC x v)] w (Wi.encOut x) (Wi.encErr x) := by
  unfold Makes Wi.encOut Wi.encErr
  cases hk : Wi.kindOk x.kind
  · exact (encodeFrame_kind x h hk).mono fun e w' ⟨he, hb⟩ => ⟨_, he, OB.nil_ _ _, hb⟩
  · cases hc : Wi.carries x.kind x.pay.length
    · exact (encodeFrame_body x h hk hc).mono fun e w' ⟨he, hb⟩ => ⟨_, he, OB.nil_ _ _, hb⟩
    · exact encodeFrame_good x h hx hk hc
theorem refEncodeFrame_calls {w : World} {v : Value} (x : Wi.Fr) (h : RB w v x.pay) (hx : x.Ok) :
    Makes 8 #[.agg (frameC x v)] w (Wi.encOut x) (Wi.encErr x) := by
  unfold Makes Wi.encOut Wi.encErr
  cases hk : Wi.kindOk x.kind
  · exact (refEncodeFrame_kind x h hk).mono fun e w' ⟨he, hb⟩ => ⟨_, he, OB.nil_ _ _, hb⟩
  · cases hc : Wi.carries x.kind x.pay.length
    · exact (refEncodeFrame_body x h hk hc).mono fun e w' ⟨he, hb⟩ => ⟨_, he, OB.nil_ _ _, hb⟩
    · exact refEncodeFrame_good x h hx hk hc

/-- What the law of frames holds: the two frames, the data with its marks. -/
structure LF (w : World) (x : Wi.Fr) (v vg vd : Value) (w' : World) : Prop where
  below : Below w.heap.size w w'
  k0 : w'.heap[w.heap.size]? = some (.cells (frameC x v) 25 (0, 0))
  k1 : w'.heap[w.heap.size + 1]? = some (.cells (frameC x vg) 25 (0, 0))
  od : OB (w.heap.size + 2) w' vd (x.pay ++ Wi.marks)
  rv : RB w' v x.pay
  rg : RB w' vg x.pay
theorem LF.next {w : World} {x : Wi.Fr} {v vg vd : Value} {w' w'' : World} (h : LF w x v vg vd w') (hb : Below w'.heap.size w' w'') : LF w x v vg vd w'' :=
  ⟨h.below.trans (hb.mono h.below.size), blk_below h.k0 hb, blk_below h.k1 hb, h.od.below hb, h.rv.below hb, h.rg.below hb⟩
theorem LF.size {w : World} {x : Wi.Fr} {v vg vd : Value} {w' : World} (h : LF w x v vg vd w') : w.heap.size + 1 < w'.heap.size := heap_lt h.k1
theorem LF.lt {w : World} {x : Wi.Fr} {v vg vd : Value} {w' : World} (h : LF w x v vg vd w') (hog : ∀ k, vg.ownBlock = some k → vd.ownBlock = some k) : ∀ k, vg.ownBlock = some k → k < w'.heap.size :=
  fun k hk => (h.od.lt k (hog k hk)).2

set_option maxRecDepth 100000 in
set_option maxHeartbeats 8000000 in
theorem wireFrame_calls {w : World} {v : Value} (x : Wi.Fr) (h : RB w v x.pay) (hx : x.Ok) (hl : x.pay.length + 40 ≤ 140737488355328) :
    Pur Try.prog 3 #[.agg (frameC x v)] w (.bool true) := by
  unfold Pur
  have hr2 := h.below (below_alloc2 w (.cells (frameC x v) 25) (.cells (frameC x v) 25))
  have hro := roomy_calls hr2 hl
  have k0 : ((w.alloc (.cells (frameC x v) 25)).alloc (.cells (frameC x v) 25)).heap[w.heap.size]? = some (.cells (frameC x v) 25 (0, 0)) := (heap_old _ _ _ (by simp)).trans (heap_new _ _ _ rfl)
  have k1 : ((w.alloc (.cells (frameC x v) 25)).alloc (.cells (frameC x v) 25)).heap[w.heap.size + 1]? = some (.cells (frameC x v) 25 (0, 0)) := heap_new _ _ _ (by simp)
  have hb0 := below_alloc2 w (.cells (frameC x v) 25) (.cells (frameC x v) 25)
  generalize hW : (w.alloc (.cells (frameC x v) 25)).alloc (.cells (frameC x v) 25) = W at *
  have hzW : W.heap.size = w.heap.size + 2 := by rw [← hW]; simp
  have HW := Lib.hid hW
  clear hW
  obtain ⟨p, c, rfl⟩ := h.form
  go_enter Try.func3, Try.ntmps3
  go_wp2_with fail
  rw [HW.out]
  refine hro.mono ?_
  rintro e w1 ⟨vd, rfl, ho1, hb1⟩
  have k0' := blk_below k0 hb1
  have k1' := blk_below k1 hb1
  have hc0 := has_cell k0'
  have hc1 := has_cell k1'
  have hr1 := hr2.below hb1
  go_wp2_with fail
  refine (given_calls ho1 hr1).mono ?_
  rintro e w1' ⟨vg, rfl, rfl, hrg, hog⟩
  obtain ⟨pg, cg, rfl⟩ := hrg.form
  have hlt1 : w.heap.size + 1 < w1.heap.size := by have := hb1.size; omega
  have hlt0 : w.heap.size < w1.heap.size := by omega
  rw [← wb_self k1']
  clear hc0 hc1
  have hne01 : w.heap.size + 1 ≠ w.heap.size := by omega
  have hc0 : ∀ o, w1.cell? ⟨w.heap.size, o, none⟩ = _ := has_cell k0'
  go_wp2_with fail
  have hL : LF w x (.slice p x.pay.length c) (.slice pg x.pay.length cg) vd (w1.wb (w.heap.size + 1) (frameC x (.slice pg x.pay.length cg)) 25) := by
    have hd : vd.ownBlock ≠ some (w.heap.size + 1) := fun e => by have := (ho1.lt _ e).1; omega
    refine ⟨below_wb (hb0.trans (hb1.mono (by omega))) (by omega), (heap_wb_ne (by omega)).trans k0', heap_wb hlt1, ?_, hr1.wb (fun hl e => by have := h.block hl _ e; omega) _ _, hrg.wb (fun _ e => hd (hog _ e)) _ _⟩
    rw [← hzW]
    exact ho1.wb hd _ _
  clear hro hc0 k0 k1 k0' k1' hlt1 hlt0 hne01 hr1 hrg ho1 hb1 hr2 hb0 hzW HW
  generalize w1.wb (w.heap.size + 1) (frameC x (.slice pg x.pay.length cg)) 25 = w3 at *
  refine (encodeFrame_calls x hL.rg hx).out.mono ?_
  rintro e w4 ⟨vb, rfl, hob4, hb4⟩
  have hL4 := hL.next hb4
  have hc0 := has_cell hL4.k0
  have hz4 := hL4.size
  go_wp2_with fail
  refine (refEncodeFrame_calls x hL4.rv hx).out.mono ?_
  rintro e w5 ⟨vc, rfl, hoc5, hb5⟩
  have hL5 := hL4.next hb5
  have hob5 := hob4.below hb5
  clear hc0
  go_wp2_with (first
    | (go_at_call 9; refine (num_same _ (Wi.encErr x)).out.mono ?_; rintro e w6 ⟨rfl, rfl⟩)
    | fail)
  refine (same_calls hob5.rb hoc5.rb).out.mono ?_
  rintro e w6 ⟨rfl, hb6⟩
  have hL6 := hL5.next hb6
  have hob6 := hob5.below hb6
  have hc0 := has_cell hL6.k0
  have hz6 := hL6.size
  go_wp2_with fail
  refine (untouched_calls hL6.od hL6.rv).out.mono ?_
  rintro e w7 ⟨rfl, hb7⟩
  have hL7 := hL6.next hb7
  have hob7 := hob6.below hb7
  clear hc0 hz6
  go_wp2_with fail
  refine (spoil_calls hob7).mono ?_
  rintro e w8 ⟨rfl, -, hg8⟩
  have hbo : ∀ k, vb.ownBlock = some k → w3.heap.size ≤ k := fun k hk => (hob7.lt k hk).1
  have hz3 := hL.size
  have hL8 : LF w x (.slice p x.pay.length c) (.slice pg x.pay.length cg) vd w8 :=
    ⟨hL7.below.grown hg8 hL7.below.size (fun k hk => by have := hbo k hk; omega), blk_grown hL7.k0 hg8 (fun e => by have := hbo _ e; omega), blk_grown hL7.k1 hg8 (fun e => by have := hbo _ e; omega),
      hL7.od.kept hg8 (fun g e e' => by have := hbo _ e'; have := (hL.od.lt g e).2; omega), hL7.rv.grown hg8 (fun hl g e e' => by have := hbo _ e'; have := h.block hl g e; omega), hL7.rg.grown hg8 (fun _ g e e' => by have := hbo _ e'; have := hL.lt hog g e; omega)⟩
  have hc0 := has_cell hL8.k0
  have hc1 := has_cell hL8.k1
  have hz8 := hL8.size
  go_wp2_with fail
  refine (sameFrame_calls x.kind x.from_ x.to x.seq x.ack hL8.rg hL8.rv).out.mono ?_
  rintro e w9 ⟨rfl, hb9⟩
  go_wp2_with fail
  go_ret
  exact ⟨rfl, (hL8.next hb9).below⟩
end Go.Proofs.Ytbgfoobcpacfeaa
