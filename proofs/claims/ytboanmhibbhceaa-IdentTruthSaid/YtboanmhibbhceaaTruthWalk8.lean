/- IdentTruth: meet. -/
import Derived.Test.YtboanmhibbhceaaTruthWalk7
namespace Go.Proofs.Ytboanmhibbhceaa
open Go.RowKit
set_option linter.unusedVariables false
set_option linter.unusedSimpArgs false

/-- The play's invariant, with bounds. -/
structure Inv2 (k : Int) (s : Truth.St) : Prop where
  inv : Truth.Inv s
  n0 : 0 ≤ s.number
  nk : s.number ≤ k
  x0 : 0 ≤ s.next
  xk : s.next ≤ k
  ha : (s.a.has.length : Int) ≤ k
  hb : (s.b.has.length : Int) ≤ k

variable {B bp : Nat} {w0 w w' : World} {c c' : Array Value} {xs ys : List Int} {v0 v1 : Value} {s : Truth.St}

/-- The region that appends to node 0's writes; to node 1's. -/
def RA0 (B bp : Nat) (w0 : World) (c : Array Value) (xs ys : List Int) (v0 v1 : Value) (x : Int) : List Value → World → Prop
  | [], w => PSc B bp w0 c xs ys w v0 v1
  | [u], w => ∃ b, u = .slice (some ⟨b, 0, none⟩) 1 1 ∧ PSc B bp w0 c xs ys w v0 v1 ∧ b < w.heap.size ∧ w.cell? ⟨b, 0, none⟩ = some (.int .i64 x)
  | [u, v], w => PSc B bp w0 c (xs ++ [x]) ys w v v1
  | _, _ => False
def RA1 (B bp : Nat) (w0 : World) (c : Array Value) (xs ys : List Int) (v0 v1 : Value) (x : Int) : List Value → World → Prop
  | [], w => PSc B bp w0 c xs ys w v0 v1
  | [u], w => ∃ b, u = .slice (some ⟨b, 0, none⟩) 1 1 ∧ PSc B bp w0 c xs ys w v0 v1 ∧ b < w.heap.size ∧ w.cell? ⟨b, 0, none⟩ = some (.int .i64 x)
  | [u, v], w => PSc B bp w0 c xs (ys ++ [x]) w v0 v
  | _, _ => False
theorem RA0.cell {x : Int} : ∀ (g : List Value) (w : World), RA0 B bp w0 c xs ys v0 v1 x g w → ∀ o, w.cell? ⟨bp, o, none⟩ = c[o]?
  | [], w, h, o => has_cell' h.blk o
  | [u], w, ⟨_, _, h, _⟩, o => has_cell' h.blk o
  | [u, v], w, h, o => has_cell' (PSc.blk h) o
theorem RA1.cell {x : Int} : ∀ (g : List Value) (w : World), RA1 B bp w0 c xs ys v0 v1 x g w → ∀ o, w.cell? ⟨bp, o, none⟩ = c[o]?
  | [], w, h, o => has_cell' h.blk o
  | [u], w, ⟨_, _, h, _⟩, o => has_cell' h.blk o
  | [u, v], w, h, o => has_cell' (PSc.blk h) o
theorem RA0.mono {x : Int} : ∀ (g : List Value) (w w' : World), RA0 B bp w0 c xs ys v0 v1 x g w → Below w.heap.size w w' → RA0 B bp w0 c xs ys v0 v1 x g w'
  | [], w, w', h, hb => PSc.grow h hb
  | [u], w, w', ⟨b, e, h, hl, hc⟩, hb => ⟨b, e, h.grow hb, Nat.lt_of_lt_of_le hl hb.size, ((bcell hb).1 _ _ hl).trans hc⟩
  | [u, v], w, w', h, hb => PSc.grow h hb
theorem RA1.mono {x : Int} : ∀ (g : List Value) (w w' : World), RA1 B bp w0 c xs ys v0 v1 x g w → Below w.heap.size w w' → RA1 B bp w0 c xs ys v0 v1 x g w'
  | [], w, w', h, hb => PSc.grow h hb
  | [u], w, w', ⟨b, e, h, hl, hc⟩, hb => ⟨b, e, h.grow hb, Nat.lt_of_lt_of_le hl hb.size, ((bcell hb).1 _ _ hl).trans hc⟩
  | [u, v], w, w', h, hb => PSc.grow h hb

theorem run_append2 {o : Oper} {a : Act} {p q : Tmp} {v u v' : Value} {w w' : World} (ho : o.op = .call { callee := .builtin .append, args := #[.tmp p, .tmp q], argTypes := #[49, 49] }) (ht : o.type = 49) (hs : a.eval (.tmp p) = v) (hx : a.eval (.tmp q) = u)
    (hr : (Builtin.append_ #[49, 49] 49 #[v, u]).run Try.prog w = .ok v' w') : (execOp a.eval o).run Try.prog w = .ok (.value v') w' := by
  unfold execOp
  simp only [ho, ht, resolve, invoke, builtin, Sem.run_bind, Sem.run_pure, Result.andThen_ok, List.map_toArray, List.map_cons, List.map_nil, hs, hx, hr]

set_option maxRecDepth 100000 in
set_option maxHeartbeats 8000000 in
theorem meet_same {k r t : Int} {f : Int} (h : PS B bp w0 s w v0 v1) (hv : Truth.verdict s.a s.b = (k, r, 0)) (hr : 1 ≤ r) (ht : Truth.truth s.a s.b = t)
    (hk : (k = 0 ∧ t = 4) ∨ (k = 0 ∧ t = 0 ∧ f = -1) ∨ (k = 5 ∧ t = 3)) (hf : f = -1 ∨ f = 0 ∨ f = 1) :
    Calls Try.prog 42 #[.pointer (some ⟨bp, 0, none⟩), .int .i64 f] w fun e w' => e = .returned (.bool true) ∧ PS B bp w0 s w' v0 v1 := by
  have Ht := Lib.hid ht
  clear ht
  rcases hf with rfl | rfl | rfl <;> rcases hk with ⟨rfl, rfl⟩ | ⟨rfl, rfl, hf⟩ | ⟨rfl, rfl⟩
  all_goals try (exfalso; omega)
  all_goals (try clear hf)
  all_goals
    go_enter Try.func42, Try.ntmps42
    go_wp2_with (first
      | (go_at_call 24; refine (verdict_calls_p h hv hr).out.mono ?_; rintro e w1 ⟨rfl, hb1⟩; have h1 := h.grow hb1)
      | (go_at_call 45; refine (truth_calls (h1.grow (below_alloc1 _ _))).out.mono ?_; rw [Ht.out]; rintro e w2 ⟨rfl, hb2⟩; have h2 := (h1.grow (below_alloc1 _ _)).grow hb2; obtain ⟨u, rfl, hb3, hz0⟩ := behind_alloc1 hb2)
      | fail)
    go_ret
    exact ⟨rfl, h2⟩

set_option maxRecDepth 100000 in
set_option maxHeartbeats 8000000 in
theorem meet_begin0 {k r : Int} {f : Int} (h : PS B bp w0 s w v0 v1) (hv : Truth.verdict s.a s.b = (k, r, 0)) (hr : 1 ≤ r) (ht : Truth.truth s.a s.b = 1) (hk : k = 1 ∨ k = 3) (h0 : 0 ≤ s.number) (hx : s.number < 144115188075855872) :
    Calls Try.prog 42 #[.pointer (some ⟨bp, 0, none⟩), .int .i64 f] w fun e w' => e = .returned (.bool true) ∧ PS B bp w0 (s.begin 0) w' v0 v1 := by
  have Ht := Lib.hid ht
  clear ht
  rcases hk with rfl | rfl
  all_goals
    go_enter Try.func42, Try.ntmps42
    go_wp2_with (first
      | (go_at_call 24; refine (verdict_calls_p h hv hr).out.mono ?_; rintro e w1 ⟨rfl, hb1⟩; have h1 := h.grow hb1)
      | (go_at_call 45; refine (truth_calls (h1.grow (below_alloc1 _ _))).out.mono ?_; rw [Ht.out]; rintro e w2 ⟨rfl, hb2⟩; have h2 := (h1.grow (below_alloc1 _ _)).grow hb2; obtain ⟨u, rfl, hb3, hz0⟩ := behind_alloc1 hb2)
      | (go_at_call 46; refine (begin_calls_p h2 (by omega) h0 hx).mono ?_; rintro e w3 ⟨rfl, h3⟩)
      | fail)
    go_ret
    exact ⟨rfl, h3⟩

set_option maxRecDepth 100000 in
set_option maxHeartbeats 8000000 in
theorem meet_begin1 {k r : Int} {f : Int} (h : PS B bp w0 s w v0 v1) (hv : Truth.verdict s.a s.b = (k, r, 0)) (hr : 1 ≤ r) (ht : Truth.truth s.a s.b = 2) (hk : k = 2 ∨ k = 4) (h0 : 0 ≤ s.number) (hx : s.number < 144115188075855872) :
    Calls Try.prog 42 #[.pointer (some ⟨bp, 0, none⟩), .int .i64 f] w fun e w' => e = .returned (.bool true) ∧ PS B bp w0 (s.begin 1) w' v0 v1 := by
  have Ht := Lib.hid ht
  clear ht
  rcases hk with rfl | rfl
  all_goals
    go_enter Try.func42, Try.ntmps42
    go_wp2_with (first
      | (go_at_call 24; refine (verdict_calls_p h hv hr).out.mono ?_; rintro e w1 ⟨rfl, hb1⟩; have h1 := h.grow hb1)
      | (go_at_call 45; refine (truth_calls (h1.grow (below_alloc1 _ _))).out.mono ?_; rw [Ht.out]; rintro e w2 ⟨rfl, hb2⟩; have h2 := (h1.grow (below_alloc1 _ _)).grow hb2; obtain ⟨u, rfl, hb3, hz0⟩ := behind_alloc1 hb2)
      | (go_at_call 46; refine (begin_calls_p h2 (by omega) h0 hx).mono ?_; rintro e w3 ⟨rfl, h3⟩)
      | fail)
    go_ret
    exact ⟨rfl, h3⟩

set_option maxRecDepth 100000 in
set_option maxHeartbeats 16000000 in
theorem meet_found0 {r : Int} (h : PS B bp w0 s w v0 v1) (hv : Truth.verdict s.a s.b = (0, r, 0)) (hr : 1 ≤ r) (ht : Truth.truth s.a s.b = 0) (h0 : 0 ≤ s.number) (hx : s.number < 144115188075855872) (hx0 : 0 ≤ s.next) (hx1 : s.next < 144115188075855872)
    (hl : s.a.has.length + 1 ≤ 17592186044416) :
    Calls Try.prog 42 #[.pointer (some ⟨bp, 0, none⟩), .int .i64 0] w fun e w' => e = .returned (.bool true) ∧ ∃ v0' v1', PS B bp w0 (s.found 0) w' v0' v1' := by
  have Ht := Lib.hid ht
  have hwr : IntKind.i64.wrap (s.next + 1) = s.next + 1 := IntWalk.i64_in _ ⟨by omega, by omega⟩
  clear ht
  go_enter Try.func42, Try.ntmps42
  go_wp2_with (first
      | (go_at_call 24; refine (verdict_calls_p h hv hr).out.mono ?_; rintro e w1 ⟨rfl, hb1⟩; have h1 := h.grow hb1)
      | (go_at_call 45; refine (truth_calls (h1.grow (below_alloc1 _ _))).out.mono ?_; rw [Ht.out]; rintro e w2 ⟨rfl, hb2⟩; have h2 := (h1.grow (below_alloc1 _ _)).grow hb2; obtain ⟨u, rfl, hb3, hz0⟩ := behind_alloc1 hb2; have hnb := Nat.ne_of_lt h1.lt; have hnb' := Ne.symm hnb; have hlt2 : bp < u.heap.size := (by have := h2.lt; simpa only [size_wb] using this); rw [← wb_self h2.blk])
      | fail)
  have hC := h2.toC.put (pcells { s with next := s.next + 1 } v0 v1)
  refine Ph.wp_region_P (RA0 B bp w0 (pcells { s with next := s.next + 1 } v0 v1) s.a.has s.b.has v0 v1 (s.next + 1)) (fun i => i == 12 || i == 13) 16 [0, 1, 2, 3, 4, 5, 6, 7, 8, 9, 10, 11, 14, 15, 12, 13] (by kernel_rfl) (by kernel_rfl) (PSc.grow hC (Below.drew (Below.refl _ _))) ?_
  (repeat (first | (refine Ph.wpP_pass rfl rfl rfl ?_; (try simp only [List.getElem_toArray, List.getElem_cons_succ, List.getElem_cons_zero, Act.put, List.setIfInBounds_toArray, List.set_cons_succ, List.set_cons_zero])) | (apply Ph.wpP_val rfl rfl rfl; (focus (intro t w1 hR; have hc := RA0.cell _ _ hR; (try simp only [List.getElem_toArray, List.getElem_cons_succ, List.getElem_cons_zero]); (try go_simp); (try exact Eq.refl _); done)); (try simp only [List.getElem_toArray, List.getElem_cons_succ, List.getElem_cons_zero, Act.put, List.setIfInBounds_toArray, List.set_cons_succ, List.set_cons_zero])) | (apply Ph.wpP_call RA0.mono rfl rfl rfl; (focus (intro t w1 hR; have hc := RA0.cell _ _ hR; (try simp only [List.getElem_toArray, List.getElem_cons_succ, List.getElem_cons_zero]); (try go_simp); (try exact And.intro rfl rfl); done)); (focus (intro t w1 hR; first | fail)); (try simp only [List.getElem_toArray, List.getElem_cons_succ, List.getElem_cons_zero, Act.put, List.setIfInBounds_toArray, List.set_cons_succ, List.set_cons_zero])) | (apply Ph.wpP_val_want rfl rfl rfl; (focus (intro t w1 hR; have hc := RA0.cell _ _ hR; (try simp only [List.getElem_toArray, List.getElem_cons_succ, List.getElem_cons_zero]); (try go_simp); (try exact Eq.refl _); done)); (try simp only [List.getElem_toArray, List.getElem_cons_succ, List.getElem_cons_zero, Act.put, List.setIfInBounds_toArray, List.set_cons_succ, List.set_cons_zero])) | (apply Ph.wpP_call_want RA0.mono rfl rfl rfl; (focus (intro t w1 hR; have hc := RA0.cell _ _ hR; (try simp only [List.getElem_toArray, List.getElem_cons_succ, List.getElem_cons_zero]); (try go_simp); (try exact And.intro rfl rfl); done)); (focus (intro t w1 hR; first | fail)); (try simp only [List.getElem_toArray, List.getElem_cons_succ, List.getElem_cons_zero, Act.put, List.setIfInBounds_toArray, List.set_cons_succ, List.set_cons_zero]))))
  refine Ph.wpP_write rfl rfl rfl ?_ ?_
  · intro w1 hR
    refine ⟨.slice (some ⟨w1.heap.size, 0, none⟩) 1 1, w1.alloc (.cells #[.int .i64 (s.next + 1)] 3), ?_, _, rfl, PSc.grow hR (below_alloc1 _ _), by simp, has_cell' (heap_new _ _ _ rfl) 0⟩
    simp only [List.getElem_toArray, List.getElem_cons_succ, List.getElem_cons_zero]
    go_simp
  rintro u w1 ⟨b, rfl, _⟩
  simp only [List.getElem_toArray, List.getElem_cons_succ, List.getElem_cons_zero, Act.put, List.setIfInBounds_toArray, List.set_cons_succ, List.set_cons_zero]
  refine Ph.wpP_write rfl rfl rfl ?_ ?_
  · rintro w1 ⟨b', e, hE, hl', hc⟩
    obtain rfl : b' = b := by injection e with e; injection e with e; injection e with e; exact e.symm
    obtain ⟨v', w', hrun, hE'⟩ := append_own hE hc hl
    exact ⟨v', w', run_append2 rfl rfl rfl rfl hrun, hE'⟩
  intro v w1 hE
  clear hE
  simp only [List.getElem_toArray, List.getElem_cons_succ, List.getElem_cons_zero, Act.put, List.setIfInBounds_toArray, List.set_cons_succ, List.set_cons_zero]
  refine Ph.wpP_nil ?_
  intro w2 hD
  have hD : PSc B bp w0 (pcells { s with next := s.next + 1 } v0 v1) (s.a.has ++ [s.next + 1]) s.b.has w2 v v1 := hD
  obtain ⟨pv, nv, cv, rfl⟩ : ∃ p n c, v = .slice p n c := by obtain ⟨p, c, e, _⟩ := hD.o0.form; exact ⟨p, _, c, e⟩
  have hP : PS B bp w0 ({ s.put 0 ⟨(s.nd 0).g, (s.nd 0).whole, (s.nd 0).has ++ [s.next + 1]⟩ with next := s.next + 1 } : Truth.St) (w2.wb bp (pcells ({ s.put 0 ⟨(s.nd 0).g, (s.nd 0).whole, (s.nd 0).has ++ [s.next + 1]⟩ with next := s.next + 1 } : Truth.St) (.slice pv nv cv) v1) 52) (.slice pv nv cv) v1 := PSc.toPS (hD.put _)
  have hlt3 := heap_lt hD.blk
  rw [← wb_self hD.blk]
  clear hC hD h2 h1 h
  go_wp2_with (first
      | (go_at_call 46; refine (begin_calls_p (m := 0) hP (by omega) h0 hx).mono ?_; rintro e w3 ⟨rfl, h3⟩)
      | fail)
  go_ret
  exact ⟨rfl, _, _, h3⟩

set_option maxRecDepth 100000 in
set_option maxHeartbeats 16000000 in
theorem meet_found1 {r : Int} (h : PS B bp w0 s w v0 v1) (hv : Truth.verdict s.a s.b = (0, r, 0)) (hr : 1 ≤ r) (ht : Truth.truth s.a s.b = 0) (h0 : 0 ≤ s.number) (hx : s.number < 144115188075855872) (hx0 : 0 ≤ s.next) (hx1 : s.next < 144115188075855872)
    (hl : s.b.has.length + 1 ≤ 17592186044416) :
    Calls Try.prog 42 #[.pointer (some ⟨bp, 0, none⟩), .int .i64 1] w fun e w' => e = .returned (.bool true) ∧ ∃ v0' v1', PS B bp w0 (s.found 1) w' v0' v1' := by
  have Ht := Lib.hid ht
  have hwr : IntKind.i64.wrap (s.next + 1) = s.next + 1 := IntWalk.i64_in _ ⟨by omega, by omega⟩
  clear ht
  go_enter Try.func42, Try.ntmps42
  go_wp2_with (first
      | (go_at_call 24; refine (verdict_calls_p h hv hr).out.mono ?_; rintro e w1 ⟨rfl, hb1⟩; have h1 := h.grow hb1)
      | (go_at_call 45; refine (truth_calls (h1.grow (below_alloc1 _ _))).out.mono ?_; rw [Ht.out]; rintro e w2 ⟨rfl, hb2⟩; have h2 := (h1.grow (below_alloc1 _ _)).grow hb2; obtain ⟨u, rfl, hb3, hz0⟩ := behind_alloc1 hb2; have hnb := Nat.ne_of_lt h1.lt; have hnb' := Ne.symm hnb; have hlt2 : bp < u.heap.size := (by have := h2.lt; simpa only [size_wb] using this); rw [← wb_self h2.blk])
      | fail)
  have hC := h2.toC.put (pcells { s with next := s.next + 1 } v0 v1)
  refine Ph.wp_region_P (RA1 B bp w0 (pcells { s with next := s.next + 1 } v0 v1) s.a.has s.b.has v0 v1 (s.next + 1)) (fun i => i == 12 || i == 13) 16 [0, 1, 2, 3, 4, 5, 6, 7, 8, 9, 10, 11, 14, 15, 12, 13] (by kernel_rfl) (by kernel_rfl) (PSc.grow hC (Below.drew (Below.refl _ _))) ?_
  (repeat (first | (refine Ph.wpP_pass rfl rfl rfl ?_; (try simp only [List.getElem_toArray, List.getElem_cons_succ, List.getElem_cons_zero, Act.put, List.setIfInBounds_toArray, List.set_cons_succ, List.set_cons_zero])) | (apply Ph.wpP_val rfl rfl rfl; (focus (intro t w1 hR; have hc := RA1.cell _ _ hR; (try simp only [List.getElem_toArray, List.getElem_cons_succ, List.getElem_cons_zero]); (try go_simp); (try exact Eq.refl _); done)); (try simp only [List.getElem_toArray, List.getElem_cons_succ, List.getElem_cons_zero, Act.put, List.setIfInBounds_toArray, List.set_cons_succ, List.set_cons_zero])) | (apply Ph.wpP_call RA1.mono rfl rfl rfl; (focus (intro t w1 hR; have hc := RA1.cell _ _ hR; (try simp only [List.getElem_toArray, List.getElem_cons_succ, List.getElem_cons_zero]); (try go_simp); (try exact And.intro rfl rfl); done)); (focus (intro t w1 hR; first | fail)); (try simp only [List.getElem_toArray, List.getElem_cons_succ, List.getElem_cons_zero, Act.put, List.setIfInBounds_toArray, List.set_cons_succ, List.set_cons_zero])) | (apply Ph.wpP_val_want rfl rfl rfl; (focus (intro t w1 hR; have hc := RA1.cell _ _ hR; (try simp only [List.getElem_toArray, List.getElem_cons_succ, List.getElem_cons_zero]); (try go_simp); (try exact Eq.refl _); done)); (try simp only [List.getElem_toArray, List.getElem_cons_succ, List.getElem_cons_zero, Act.put, List.setIfInBounds_toArray, List.set_cons_succ, List.set_cons_zero])) | (apply Ph.wpP_call_want RA1.mono rfl rfl rfl; (focus (intro t w1 hR; have hc := RA1.cell _ _ hR; (try simp only [List.getElem_toArray, List.getElem_cons_succ, List.getElem_cons_zero]); (try go_simp); (try exact And.intro rfl rfl); done)); (focus (intro t w1 hR; first | fail)); (try simp only [List.getElem_toArray, List.getElem_cons_succ, List.getElem_cons_zero, Act.put, List.setIfInBounds_toArray, List.set_cons_succ, List.set_cons_zero]))))
  refine Ph.wpP_write rfl rfl rfl ?_ ?_
  · intro w1 hR
    refine ⟨.slice (some ⟨w1.heap.size, 0, none⟩) 1 1, w1.alloc (.cells #[.int .i64 (s.next + 1)] 3), ?_, _, rfl, PSc.grow hR (below_alloc1 _ _), by simp, has_cell' (heap_new _ _ _ rfl) 0⟩
    simp only [List.getElem_toArray, List.getElem_cons_succ, List.getElem_cons_zero]
    go_simp
  rintro u w1 ⟨b, rfl, _⟩
  simp only [List.getElem_toArray, List.getElem_cons_succ, List.getElem_cons_zero, Act.put, List.setIfInBounds_toArray, List.set_cons_succ, List.set_cons_zero]
  refine Ph.wpP_write rfl rfl rfl ?_ ?_
  · rintro w1 ⟨b', e, hE, hl', hc⟩
    obtain rfl : b' = b := by injection e with e; injection e with e; injection e with e; exact e.symm
    obtain ⟨v', w', hrun, hE'⟩ := append_own hE.swap hc hl
    exact ⟨v', w', run_append2 rfl rfl rfl rfl hrun, hE'.swap⟩
  intro v w1 hE
  clear hE
  simp only [List.getElem_toArray, List.getElem_cons_succ, List.getElem_cons_zero, Act.put, List.setIfInBounds_toArray, List.set_cons_succ, List.set_cons_zero]
  refine Ph.wpP_nil ?_
  intro w2 hD
  have hD : PSc B bp w0 (pcells { s with next := s.next + 1 } v0 v1) s.a.has (s.b.has ++ [s.next + 1]) w2 v0 v := hD
  obtain ⟨pv, nv, cv, rfl⟩ : ∃ p n c, v = .slice p n c := by obtain ⟨p, c, e, _⟩ := hD.o1.form; exact ⟨p, _, c, e⟩
  have hP : PS B bp w0 ({ s.put 1 ⟨(s.nd 1).g, (s.nd 1).whole, (s.nd 1).has ++ [s.next + 1]⟩ with next := s.next + 1 } : Truth.St) (w2.wb bp (pcells ({ s.put 1 ⟨(s.nd 1).g, (s.nd 1).whole, (s.nd 1).has ++ [s.next + 1]⟩ with next := s.next + 1 } : Truth.St) v0 (.slice pv nv cv)) 52) v0 (.slice pv nv cv) := PSc.toPS (hD.put _)
  have hlt3 := heap_lt hD.blk
  rw [← wb_self hD.blk]
  clear hC hD h2 h1 h
  go_wp2_with (first
      | (go_at_call 46; refine (begin_calls_p (m := 1) hP (by omega) h0 hx).mono ?_; rintro e w3 ⟨rfl, h3⟩)
      | fail)
  go_ret
  exact ⟨rfl, _, _, h3⟩
end Go.Proofs.Ytboanmhibbhceaa
