/- IdentTruth: the deeds that append nothing. (Printed by wip/mktake.py.) -/
import Derived.Test.YtboanmhibbhceaaTruthWalk10
namespace Go.Proofs.Ytboanmhibbhceaa
open Go.RowKit
set_option linter.unusedVariables false
set_option linter.unusedSimpArgs false

variable {B bp : Nat} {w0 w w' : World} {c c' : Array Value} {xs ys : List Int} {v0 v1 : Value} {s : Truth.St}

abbrev deedV (k n : Int) : Value := .agg #[.int .i64 k, .int .i64 n]
theorem tmod_cases (x : Int) : x.tmod 2 = 0 ∨ x.tmod 2 = 1 ∨ x.tmod 2 = -1 := by
  have h := Int.natAbs_tmod x 2
  have h2 : (2 : Int).natAbs = 2 := rfl
  rw [h2] at h
  omega

set_option maxRecDepth 100000 in
set_option maxHeartbeats 16000000 in
theorem take_other {node : Int} {k : Int} (h : PS B bp w0 s w v0 v1) (e1 : (k == 1) = false) (e2 : (k == 2) = false) (e3 : (k == 3) = false) (e4 : (k == 4) = false) (e5 : (k == 5) = false) (e6 : (k == 6) = false) (e7 : (k == 7) = false) (e8 : (k == 8) = false) :
    Calls Try.prog 25 #[.pointer (some ⟨bp, 0, none⟩), deedV k node] w fun e w' => e = .returned (.bool true) ∧ PS B bp w0 s w' v0 v1 := by
  have hp := has_cell' h.blk
  have hlt := h.lt
  have h2 := h.grow (below_alloc1 w (.cells #[.int .i64 k, .int .i64 node] 57))
  rcases tmod_cases node with ht | ht | ht
  all_goals
    go_enter Try.func25, Try.ntmps25
    go_wp2_with (first
      | fail)
    go_ret
    exact ⟨rfl, h2⟩

set_option maxRecDepth 100000 in
set_option maxHeartbeats 16000000 in
theorem take_alone_on {node : Int}  (h : PS B bp w0 s w v0 v1) (hs : 0 ≤ s.source) :
    Calls Try.prog 25 #[.pointer (some ⟨bp, 0, none⟩), deedV 1 node] w fun e w' => e = .returned (.bool true) ∧ PS B bp w0 s w' v0 v1 := by
  have hp := has_cell' h.blk
  have hlt := h.lt
  have h2 := h.grow (below_alloc1 w (.cells #[.int .i64 1, .int .i64 node] 57))
  rcases tmod_cases node with ht | ht | ht
  all_goals
    go_enter Try.func25, Try.ntmps25
    go_wp2_with (first
      | fail)
    go_ret
    exact ⟨rfl, h2⟩

set_option maxRecDepth 100000 in
set_option maxHeartbeats 16000000 in
theorem take_meet_on {node : Int}  (h : PS B bp w0 s w v0 v1) (hs : ¬ s.source < 0) :
    Calls Try.prog 25 #[.pointer (some ⟨bp, 0, none⟩), deedV 2 node] w fun e w' => e = .returned (.bool true) ∧ PS B bp w0 s w' v0 v1 := by
  have hp := has_cell' h.blk
  have hlt := h.lt
  have h2 := h.grow (below_alloc1 w (.cells #[.int .i64 2, .int .i64 node] 57))
  rcases tmod_cases node with ht | ht | ht
  all_goals
    go_enter Try.func25, Try.ntmps25
    go_wp2_with (first
      | fail)
    go_ret
    exact ⟨rfl, h2⟩

set_option maxRecDepth 100000 in
set_option maxHeartbeats 16000000 in
theorem take_ends_off {node : Int} {k : Int} (h : PS B bp w0 s w v0 v1) (hk : k = 4 ∨ k = 5) (hs : ¬ 0 ≤ s.source) :
    Calls Try.prog 25 #[.pointer (some ⟨bp, 0, none⟩), deedV k node] w fun e w' => e = .returned (.bool true) ∧ PS B bp w0 s w' v0 v1 := by
  have hp := has_cell' h.blk
  have hlt := h.lt
  have h2 := h.grow (below_alloc1 w (.cells #[.int .i64 k, .int .i64 node] 57))
  rcases tmod_cases node with ht | ht | ht <;> rcases hk with rfl | rfl
  all_goals
    go_enter Try.func25, Try.ntmps25
    go_wp2_with (first
      | fail)
    go_ret
    exact ⟨rfl, h2⟩

set_option maxRecDepth 100000 in
set_option maxHeartbeats 16000000 in
theorem take_heard_off {node : Int}  (h : PS B bp w0 s w v0 v1) (hs : ¬ 0 ≤ s.source) :
    Calls Try.prog 25 #[.pointer (some ⟨bp, 0, none⟩), deedV 8 node] w fun e w' => e = .returned (.bool true) ∧ PS B bp w0 s w' v0 v1 := by
  have hp := has_cell' h.blk
  have hlt := h.lt
  have h2 := h.grow (below_alloc1 w (.cells #[.int .i64 8, .int .i64 node] 57))
  rcases tmod_cases node with ht | ht | ht
  all_goals
    go_enter Try.func25, Try.ntmps25
    go_wp2_with (first
      | fail)
    go_ret
    exact ⟨rfl, h2⟩

set_option maxRecDepth 100000 in
set_option maxHeartbeats 16000000 in
theorem take_heard_on {node : Int}  (h : PS B bp w0 s w v0 v1) (hs : 0 ≤ s.source) (ht' : s.taken = true) :
    Calls Try.prog 25 #[.pointer (some ⟨bp, 0, none⟩), deedV 8 node] w fun e w' => e = .returned (.bool true) ∧ PS B bp w0 s w' v0 v1 := by
  have hp := has_cell' h.blk
  have hlt := h.lt
  have h2 := h.grow (below_alloc1 w (.cells #[.int .i64 8, .int .i64 node] 57))
  rcases tmod_cases node with ht | ht | ht
  all_goals
    go_enter Try.func25, Try.ntmps25
    go_wp2_with (first
      | fail)
    go_ret
    exact ⟨rfl, h2⟩

set_option maxRecDepth 100000 in
set_option maxHeartbeats 16000000 in
theorem take_give_on {node : Int}  (h : PS B bp w0 s w v0 v1) (hs : ¬ s.source < 0) :
    Calls Try.prog 25 #[.pointer (some ⟨bp, 0, none⟩), deedV 6 node] w fun e w' => e = .returned (.bool true) ∧ PS B bp w0 s w' v0 v1 := by
  have hp := has_cell' h.blk
  have hlt := h.lt
  have h2 := h.grow (below_alloc1 w (.cells #[.int .i64 6, .int .i64 node] 57))
  rcases tmod_cases node with ht | ht | ht
  all_goals
    go_enter Try.func25, Try.ntmps25
    go_wp2_with (first
      | fail)
    go_ret
    exact ⟨rfl, h2⟩

set_option maxRecDepth 100000 in
set_option maxHeartbeats 16000000 in
theorem take_force_on {node : Int}  (h : PS B bp w0 s w v0 v1) (hs : ¬ s.source < 0) :
    Calls Try.prog 25 #[.pointer (some ⟨bp, 0, none⟩), deedV 7 node] w fun e w' => e = .returned (.bool true) ∧ PS B bp w0 s w' v0 v1 := by
  have hp := has_cell' h.blk
  have hlt := h.lt
  have h2 := h.grow (below_alloc1 w (.cells #[.int .i64 7, .int .i64 node] 57))
  rcases tmod_cases node with ht | ht | ht
  all_goals
    go_enter Try.func25, Try.ntmps25
    go_wp2_with (first
      | fail)
    go_ret
    exact ⟨rfl, h2⟩

set_option maxRecDepth 100000 in
set_option maxHeartbeats 16000000 in
theorem take_heard {node : Int}  (h : PS B bp w0 s w v0 v1) (hs : s.source = 0 ∨ s.source = 1) (ht' : s.taken = false) :
    Calls Try.prog 25 #[.pointer (some ⟨bp, 0, none⟩), deedV 8 node] w fun e w' => e = .returned (.bool true) ∧ PS B bp w0 s.heard w' v0 v1 := by
  have hp := has_cell' h.blk
  have hlt := h.lt
  have h2 := h.grow (below_alloc1 w (.cells #[.int .i64 8, .int .i64 node] 57))
  have hs0 : 0 ≤ s.source := by omega
  rcases tmod_cases node with ht | ht | ht
  all_goals
    go_enter Try.func25, Try.ntmps25
    go_wp2_with (first
      | (go_at_call 44; refine (taken_calls_p h2 hs).mono ?_; rintro e w1 ⟨rfl, h3⟩)
      | fail)
    go_ret
    exact ⟨rfl, h3⟩

set_option maxRecDepth 100000 in
set_option maxHeartbeats 16000000 in
theorem take_ends {node : Int} {k : Int} {K : World → Prop} (h : PS B bp w0 s w v0 v1) (hk : k = 4 ∨ k = 5) (hs : 0 ≤ s.source) (hc : ∀ w, PS B bp w0 s w v0 v1 → Calls Try.prog 43 #[.pointer (some ⟨bp, 0, none⟩), .int .i64 k] w fun e w' => e = .returned (.tuple #[]) ∧ K w') :
    Calls Try.prog 25 #[.pointer (some ⟨bp, 0, none⟩), deedV k node] w fun e w' => e = .returned (.bool true) ∧ K w' := by
  have hp := has_cell' h.blk
  have hlt := h.lt
  have h2 := h.grow (below_alloc1 w (.cells #[.int .i64 k, .int .i64 node] 57))
  rcases tmod_cases node with ht | ht | ht <;> rcases hk with rfl | rfl
  all_goals
    go_enter Try.func25, Try.ntmps25
    go_wp2_with (first
      | (go_at_call 43; refine (hc _ h2).mono ?_; rintro e w1 ⟨rfl, h3⟩)
      | fail)
    go_ret
    exact ⟨rfl, h3⟩

set_option maxRecDepth 100000 in
set_option maxHeartbeats 16000000 in
theorem take_meet {node : Int} {f : Int} {K : World → Prop} (h : PS B bp w0 s w v0 v1) (hs : s.source < 0) (hf : (node = 0 ∧ f = 0) ∨ (node = 1 ∧ f = 1) ∨ ((node == 0) = false ∧ (node == 1) = false ∧ f = -1)) (hc : ∀ w, PS B bp w0 s w v0 v1 → Calls Try.prog 42 #[.pointer (some ⟨bp, 0, none⟩), .int .i64 f] w fun e w' => e = .returned (.bool true) ∧ K w') :
    Calls Try.prog 25 #[.pointer (some ⟨bp, 0, none⟩), deedV 2 node] w fun e w' => e = .returned (.bool true) ∧ K w' := by
  have hp := has_cell' h.blk
  have hlt := h.lt
  have h2 := h.grow (below_alloc1 w (.cells #[.int .i64 2, .int .i64 node] 57))
  rcases tmod_cases node with ht | ht | ht <;> rcases hf with ⟨rfl, rfl⟩ | ⟨rfl, rfl⟩ | ⟨e1, e2, rfl⟩
  all_goals
    go_enter Try.func25, Try.ntmps25
    go_wp2_with (first
      | (go_at_call 42; refine (hc _ h2).mono ?_; rintro e w1 ⟨rfl, h3⟩)
      | fail)
    go_ret
    exact ⟨rfl, h3⟩

set_option maxRecDepth 100000 in
set_option maxHeartbeats 16000000 in
theorem take_break {node : Int} (h : PS B bp w0 s w v0 v1) :
    Calls Try.prog 25 #[.pointer (some ⟨bp, 0, none⟩), deedV 3 node] w fun e w' => e = .returned (.bool true) ∧ PS B bp w0 { s with source := -1 } w' v0 v1 := by
  have hlt := h.lt
  have hset := (h.set (s' := { s with source := -1 }) rfl rfl).grow (below_alloc1 _ (.cells #[.int .i64 3, .int .i64 node] 57))
  rw [alloc_wb h.lt] at hset
  have hne := Nat.ne_of_lt hlt
  have hne' := Ne.symm hne
  rw [← wb_self h.blk]
  clear h
  rcases tmod_cases node with ht | ht | ht
  all_goals
    go_enter Try.func25, Try.ntmps25
    go_wp2_with fail
    go_ret
    exact ⟨rfl, hset⟩

set_option maxRecDepth 100000 in
set_option maxHeartbeats 16000000 in
theorem take_give {node n k r : Int} (h : PS B bp w0 s w v0 v1) (hn : (node.tmod 2 = 0 ∧ n = 0) ∨ (node.tmod 2 = 1 ∧ n = 1) ∨ (node.tmod 2 = -1 ∧ n = 1)) (hs : s.source < 0) (htr : Truth.truth s.a s.b = 3) (hv : Truth.verdict s.a s.b = (5, r, 0)) (hr : 1 ≤ r) (h0 : 0 ≤ s.number) (hx : s.number < 144115188075855872) :
    Calls Try.prog 25 #[.pointer (some ⟨bp, 0, none⟩), deedV 6 node] w fun e w' => e = .returned (.bool true) ∧ PS B bp w0 (s.begin (1 - n)) w' v0 v1 := by
  have hp := has_cell' h.blk
  have hlt := h.lt
  have h2 := h.grow (below_alloc1 w (.cells #[.int .i64 6, .int .i64 node] 57))
  have Ht := Lib.hid htr
  clear htr
  rcases hn with ⟨ht, rfl⟩ | ⟨ht, rfl⟩ | ⟨ht, rfl⟩
  all_goals
    go_enter Try.func25, Try.ntmps25
    go_wp2_with (first
      | (go_at_call 45; refine (truth_calls h2).out.mono ?_; rw [Ht.out]; rintro e w1 ⟨rfl, hb1⟩; have h3 := h2.grow hb1; obtain ⟨u, rfl, hb3, hz0⟩ := behind_alloc1 hb1)
      | (go_at_call 24; refine (verdict_calls_p h3 hv hr).out.mono ?_; rintro e w1 ⟨rfl, hb4⟩; have h4 := h3.grow hb4; have h5 := h4.grow (below_alloc1 w1 (.cells (verC 5 r) 34)))
      | (go_at_call 46; refine (begin_calls_p h5 (by omega) h0 hx).mono ?_; rintro e w1 ⟨rfl, h6⟩)
      | fail)
    go_ret
    exact ⟨rfl, h6⟩

set_option maxRecDepth 100000 in
set_option maxHeartbeats 16000000 in
theorem take_give_no {node : Int} (h : PS B bp w0 s w v0 v1) (hs : s.source < 0) (htr : (Truth.truth s.a s.b == 3) = false) :
    Calls Try.prog 25 #[.pointer (some ⟨bp, 0, none⟩), deedV 6 node] w fun e w' => e = .returned (.bool true) ∧ PS B bp w0 s w' v0 v1 := by
  have hp := has_cell' h.blk
  have hlt := h.lt
  have h2 := h.grow (below_alloc1 w (.cells #[.int .i64 6, .int .i64 node] 57))
  obtain ⟨t, e⟩ : ∃ t, Truth.truth s.a s.b = t := ⟨_, rfl⟩
  rw [e] at htr
  have Ht := Lib.hid e
  clear e
  rcases tmod_cases node with ht | ht | ht
  all_goals
    go_enter Try.func25, Try.ntmps25
    go_wp2_with (first
      | (go_at_call 45; refine (truth_calls h2).out.mono ?_; rw [Ht.out]; rintro e w1 ⟨rfl, hb1⟩; have h3 := h2.grow hb1; obtain ⟨u, rfl, hb3, hz0⟩ := behind_alloc1 hb1)
      | fail)
    go_ret
    exact ⟨rfl, h3⟩
end Go.Proofs.Ytboanmhibbhceaa
