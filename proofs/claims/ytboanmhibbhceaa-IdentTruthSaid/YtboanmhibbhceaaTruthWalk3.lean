/- IdentTruth: the walks of what changes the play's state. -/
import Derived.Test.YtboanmhibbhceaaTruthWalk2
import Derived.Test.YtboanmhibbhceaaRegP2
namespace Go.Proofs.Ytboanmhibbhceaa
open Go.RowKit
set_option linter.unusedVariables false
set_option linter.unusedSimpArgs false

theorem PS.grow {B bp : Nat} {w0 w w' : World} {s : Truth.St} {v0 v1 : Value} (h : PS B bp w0 s w v0 v1) (hb : Below w.heap.size w w') : PS B bp w0 s w' v0 v1 := by
  have own : ∀ {v xs}, Own B w v xs → Own B w' v xs := fun {v xs} ho => by
    obtain ⟨hl, h1 | ⟨g, cap, cur, e, hB, hg, hn, hc, hs, ht⟩⟩ := ho
    · exact ⟨hl, .inl h1⟩
    · have hlt : g < w.heap.size := by
        rcases Nat.lt_or_ge g w.heap.size with h' | h'
        · exact h'
        · rw [Array.getElem?_eq_none h'] at hg; cases hg
      exact ⟨hl, .inr ⟨g, cap, cur, e, hB, (hb.block _ hlt).trans hg, hn, hc, hs, ht⟩⟩
  exact ⟨h.below.trans (hb.mono h.sB), h.hB, Nat.le_trans h.sB hb.size, (hb.block _ h.lt).trans h.blk, own h.o0, own h.o1, h.d0, h.d1, h.d⟩

theorem PS.set {B bp : Nat} {w0 w : World} {s s' : Truth.St} {v0 v1 : Value} (h : PS B bp w0 s w v0 v1) (e0 : s'.a.has = s.a.has) (e1 : s'.b.has = s.b.has) : PS B bp w0 s' (w.wb bp (pcells s' v0 v1) 52) v0 v1 := by
  have own : ∀ {v xs}, v.ownBlock ≠ some bp → Own B w v xs → Own B (w.wb bp (pcells s' v0 v1) 52) v xs := fun {v xs} hne ho => by
    obtain ⟨hl, h1 | ⟨g, cap, cur, e, hB, hg, hn, hc, hs, ht⟩⟩ := ho
    · exact ⟨hl, .inl h1⟩
    · refine ⟨hl, .inr ⟨g, cap, cur, e, hB, (heap_wb_ne ?_).trans hg, hn, hc, hs, ht⟩⟩
      rintro rfl
      exact hne (by rw [e]; rfl)
  exact ⟨below_wb h.below h.hB, h.hB, by simpa using h.sB, heap_wb h.lt, by rw [e0]; exact own h.d0 h.o0, by rw [e1]; exact own h.d1 h.o1, h.d0, h.d1, h.d⟩

theorem spec_fresh {n x : Int} (hn : n = 0 ∨ n = 1) (h0 : 0 ≤ x) (hx : x < 288230376151711744) : Spec.fresh n x = Truth.fresh n x := by
  unfold Spec.fresh Truth.fresh
  rcases hn with rfl | rfl
  · rw [IntWalk.u64_in _ ⟨by omega, by omega⟩]; omega
  · rw [IntWalk.u64_in _ ⟨by omega, by omega⟩]; omega

set_option maxRecDepth 100000 in
set_option maxHeartbeats 4000000 in
theorem fresh_calls_p {B bp : Nat} {w0 w : World} {s : Truth.St} {v0 v1 : Value} {n : Int} (h : PS B bp w0 s w v0 v1) (hn : n = 0 ∨ n = 1) (h0 : 0 ≤ s.number) (hx : s.number < 144115188075855872) :
    Calls Try.prog 41 #[.pointer (some ⟨bp, 0, none⟩), .int .i64 n] w fun e w' => e = .returned (.int .u64 (Truth.fresh n (s.number + 1))) ∧ PS B bp w0 { s with number := s.number + 1 } w' v0 v1 := by
  have hset := h.set (s' := { s with number := s.number + 1 }) rfl rfl
  rw [← wb_self h.blk]
  have hlt := h.lt
  have hwr : IntKind.u64.wrap (s.number + 1) = s.number + 1 := IntWalk.u64_in _ ⟨by omega, by omega⟩
  have hf := spec_fresh hn (x := s.number + 1) (by omega) (by omega)
  have Hf := Lib.hid hf
  clear hf h0 hx hn h
  obtain ⟨⟨ga, wa, xs⟩, ⟨gb, wb, ys⟩, nx, nu, so, tk, hf⟩ := s
  simp only at hwr hset Hf ⊢
  go_enter Try.func41, Try.ntmps41
  go_wp2_with (first | (go_at_call 8; refine (fresh_calls _ _ _).out.mono ?_; rw [Hf.out]; rintro e w1 ⟨rfl, hb1⟩) | fail)
  go_ret
  exact ⟨rfl, hset.grow hb1⟩

/-- The state before and behind the call of fresh. -/
def RFresh (B bp : Nat) (w0 : World) (s : Truth.St) (v0 v1 : Value) (f : Int) : List Value → World → Prop
  | [], w => PS B bp w0 s w v0 v1
  | [u], w => u = .int .u64 f ∧ PS B bp w0 { s with number := s.number + 1 } w v0 v1
  | _, _ => False

theorem RFresh.cell {B bp : Nat} {w0 : World} {s : Truth.St} {v0 v1 : Value} {f : Int} : ∀ (g : List Value) (w : World), RFresh B bp w0 s v0 v1 f g w → ∀ o, o ≠ 13 → w.cell? ⟨bp, o, none⟩ = (pcells s v0 v1)[o]?
  | [], w, h, o, _ => has_cell' h.blk o
  | [u], w, ⟨_, h⟩, o, ho => by
    rw [has_cell' h.blk o]
    rcases o with _ | _ | _ | _ | _ | _ | _ | _ | _ | _ | _ | _ | _ | _ | _ <;> first | rfl | exact absurd rfl ho
theorem RFresh.mono {B bp : Nat} {w0 : World} {s : Truth.St} {v0 v1 : Value} {f : Int} : ∀ (g : List Value) (w w' : World), RFresh B bp w0 s v0 v1 f g w → Below w.heap.size w w' → RFresh B bp w0 s v0 v1 f g w'
  | [], _, _, h, hb => PS.grow h hb
  | [_], _, _, ⟨e, h⟩, hb => ⟨e, PS.grow h hb⟩

set_option maxRecDepth 100000 in
set_option maxHeartbeats 8000000 in
theorem begin_calls_p {B bp : Nat} {w0 w : World} {s : Truth.St} {v0 v1 : Value} {m : Int} (h : PS B bp w0 s w v0 v1) (hm : m = 0 ∨ m = 1) (h0 : 0 ≤ s.number) (hx : s.number < 144115188075855872) :
    Calls Try.prog 46 #[.pointer (some ⟨bp, 0, none⟩), .int .i64 m] w fun e w' => e = .returned (.tuple #[]) ∧ PS B bp w0 (s.begin m) w' v0 v1 := by
  have hfr := fun w1 (hR : PS B bp w0 s w1 v0 v1) => fresh_calls_p hR hm h0 hx
  rcases hm with rfl | rfl
  · go_enter Try.func46, Try.ntmps46
    go_wp2_with fail
    refine Ph.wp_region_P (RFresh B bp w0 s v0 v1 (Truth.fresh 0 (s.number + 1))) (fun i => i == 10) 14 [0, 1, 2, 3, 4, 5, 6, 7, 8, 9, 12, 13, 10, 11] (by kernel_rfl) (by kernel_rfl) (h.grow (Below.drew (Below.refl _ _))) ?_
    (repeat (first | (refine Ph.wpP_pass rfl rfl rfl ?_; (try simp only [List.getElem_toArray, List.getElem_cons_succ, List.getElem_cons_zero, Act.put, List.setIfInBounds_toArray, List.set_cons_succ, List.set_cons_zero])) | (apply Ph.wpP_val rfl rfl rfl; (focus (intro t w1 hR; have hc := RFresh.cell _ _ hR; (try simp only [List.getElem_toArray, List.getElem_cons_succ, List.getElem_cons_zero]); (try go_simp); (try exact Eq.refl _); done)); (try simp only [List.getElem_toArray, List.getElem_cons_succ, List.getElem_cons_zero, Act.put, List.setIfInBounds_toArray, List.set_cons_succ, List.set_cons_zero])) | (apply Ph.wpP_call RFresh.mono rfl rfl rfl; (focus (intro t w1 hR; have hc := RFresh.cell _ _ hR; (try simp only [List.getElem_toArray, List.getElem_cons_succ, List.getElem_cons_zero]); (try go_simp); (try exact And.intro rfl rfl); done)); (focus (intro t w1 hR; first | exact beginSource_calls _ _ _)); (try simp only [List.getElem_toArray, List.getElem_cons_succ, List.getElem_cons_zero, Act.put, List.setIfInBounds_toArray, List.set_cons_succ, List.set_cons_zero])) | (apply Ph.wpP_val_want rfl rfl rfl; (focus (intro t w1 hR; have hc := RFresh.cell _ _ hR; (try simp only [List.getElem_toArray, List.getElem_cons_succ, List.getElem_cons_zero]); (try go_simp); (try exact Eq.refl _); done)); (try simp only [List.getElem_toArray, List.getElem_cons_succ, List.getElem_cons_zero, Act.put, List.setIfInBounds_toArray, List.set_cons_succ, List.set_cons_zero])) | (apply Ph.wpP_call_want RFresh.mono rfl rfl rfl; (focus (intro t w1 hR; have hc := RFresh.cell _ _ hR; (try simp only [List.getElem_toArray, List.getElem_cons_succ, List.getElem_cons_zero]); (try go_simp); (try exact And.intro rfl rfl); done)); (focus (intro t w1 hR; first | exact beginSource_calls _ _ _)); (try simp only [List.getElem_toArray, List.getElem_cons_succ, List.getElem_cons_zero, Act.put, List.setIfInBounds_toArray, List.set_cons_succ, List.set_cons_zero]))))
    refine Ph.wpP_write_call rfl rfl rfl (f := 41) (args := #[.pointer (some ⟨bp, 0, none⟩), .int .i64 0]) ?_ ?_ ?_
    · intro w1 hR; simp only [List.getElem_toArray, List.getElem_cons_succ, List.getElem_cons_zero]; go_simp
    · intro w1 hR; exact (hfr w1 hR).mono fun e w' ⟨he, hp⟩ => ⟨_, he, rfl, hp⟩
    rintro u w1 ⟨rfl, hR1⟩
    clear hR1
    simp only [List.getElem_toArray, List.getElem_cons_succ, List.getElem_cons_zero, Act.put, List.setIfInBounds_toArray, List.set_cons_succ, List.set_cons_zero]
    (repeat (first | (refine Ph.wpP_pass rfl rfl rfl ?_; (try simp only [List.getElem_toArray, List.getElem_cons_succ, List.getElem_cons_zero, Act.put, List.setIfInBounds_toArray, List.set_cons_succ, List.set_cons_zero])) | (apply Ph.wpP_val rfl rfl rfl; (focus (intro t w1 hR; have hc := RFresh.cell _ _ hR; (try simp only [List.getElem_toArray, List.getElem_cons_succ, List.getElem_cons_zero]); (try go_simp); (try exact Eq.refl _); done)); (try simp only [List.getElem_toArray, List.getElem_cons_succ, List.getElem_cons_zero, Act.put, List.setIfInBounds_toArray, List.set_cons_succ, List.set_cons_zero])) | (apply Ph.wpP_call RFresh.mono rfl rfl rfl; (focus (intro t w1 hR; have hc := RFresh.cell _ _ hR; (try simp only [List.getElem_toArray, List.getElem_cons_succ, List.getElem_cons_zero]); (try go_simp); (try exact And.intro rfl rfl); done)); (focus (intro t w1 hR; first | exact beginSource_calls _ _ _)); (try simp only [List.getElem_toArray, List.getElem_cons_succ, List.getElem_cons_zero, Act.put, List.setIfInBounds_toArray, List.set_cons_succ, List.set_cons_zero])) | (apply Ph.wpP_val_want rfl rfl rfl; (focus (intro t w1 hR; have hc := RFresh.cell _ _ hR; (try simp only [List.getElem_toArray, List.getElem_cons_succ, List.getElem_cons_zero]); (try go_simp); (try exact Eq.refl _); done)); (try simp only [List.getElem_toArray, List.getElem_cons_succ, List.getElem_cons_zero, Act.put, List.setIfInBounds_toArray, List.set_cons_succ, List.set_cons_zero])) | (apply Ph.wpP_call_want RFresh.mono rfl rfl rfl; (focus (intro t w1 hR; have hc := RFresh.cell _ _ hR; (try simp only [List.getElem_toArray, List.getElem_cons_succ, List.getElem_cons_zero]); (try go_simp); (try exact And.intro rfl rfl); done)); (focus (intro t w1 hR; first | exact beginSource_calls _ _ _)); (try simp only [List.getElem_toArray, List.getElem_cons_succ, List.getElem_cons_zero, Act.put, List.setIfInBounds_toArray, List.set_cons_succ, List.set_cons_zero]))))
    refine Ph.wpP_nil ?_
    rintro w2 ⟨_, hR2⟩
    have hset := hR2.set (s' := s.begin 0) rfl rfl
    have hlt := hR2.lt
    rw [← wb_self hR2.blk]
    clear hR2 hfr h
    go_wp2_with fail
    go_end0
    exact ⟨rfl, hset⟩
  · go_enter Try.func46, Try.ntmps46
    go_wp2_with fail
    refine Ph.wp_region_P (RFresh B bp w0 s v0 v1 (Truth.fresh 1 (s.number + 1))) (fun i => i == 10) 14 [0, 1, 2, 3, 4, 5, 6, 7, 8, 9, 12, 13, 10, 11] (by kernel_rfl) (by kernel_rfl) (h.grow (Below.drew (Below.refl _ _))) ?_
    (repeat (first | (refine Ph.wpP_pass rfl rfl rfl ?_; (try simp only [List.getElem_toArray, List.getElem_cons_succ, List.getElem_cons_zero, Act.put, List.setIfInBounds_toArray, List.set_cons_succ, List.set_cons_zero])) | (apply Ph.wpP_val rfl rfl rfl; (focus (intro t w1 hR; have hc := RFresh.cell _ _ hR; (try simp only [List.getElem_toArray, List.getElem_cons_succ, List.getElem_cons_zero]); (try go_simp); (try exact Eq.refl _); done)); (try simp only [List.getElem_toArray, List.getElem_cons_succ, List.getElem_cons_zero, Act.put, List.setIfInBounds_toArray, List.set_cons_succ, List.set_cons_zero])) | (apply Ph.wpP_call RFresh.mono rfl rfl rfl; (focus (intro t w1 hR; have hc := RFresh.cell _ _ hR; (try simp only [List.getElem_toArray, List.getElem_cons_succ, List.getElem_cons_zero]); (try go_simp); (try exact And.intro rfl rfl); done)); (focus (intro t w1 hR; first | exact beginSource_calls _ _ _)); (try simp only [List.getElem_toArray, List.getElem_cons_succ, List.getElem_cons_zero, Act.put, List.setIfInBounds_toArray, List.set_cons_succ, List.set_cons_zero])) | (apply Ph.wpP_val_want rfl rfl rfl; (focus (intro t w1 hR; have hc := RFresh.cell _ _ hR; (try simp only [List.getElem_toArray, List.getElem_cons_succ, List.getElem_cons_zero]); (try go_simp); (try exact Eq.refl _); done)); (try simp only [List.getElem_toArray, List.getElem_cons_succ, List.getElem_cons_zero, Act.put, List.setIfInBounds_toArray, List.set_cons_succ, List.set_cons_zero])) | (apply Ph.wpP_call_want RFresh.mono rfl rfl rfl; (focus (intro t w1 hR; have hc := RFresh.cell _ _ hR; (try simp only [List.getElem_toArray, List.getElem_cons_succ, List.getElem_cons_zero]); (try go_simp); (try exact And.intro rfl rfl); done)); (focus (intro t w1 hR; first | exact beginSource_calls _ _ _)); (try simp only [List.getElem_toArray, List.getElem_cons_succ, List.getElem_cons_zero, Act.put, List.setIfInBounds_toArray, List.set_cons_succ, List.set_cons_zero]))))
    refine Ph.wpP_write_call rfl rfl rfl (f := 41) (args := #[.pointer (some ⟨bp, 0, none⟩), .int .i64 1]) ?_ ?_ ?_
    · intro w1 hR; simp only [List.getElem_toArray, List.getElem_cons_succ, List.getElem_cons_zero]; go_simp
    · intro w1 hR; exact (hfr w1 hR).mono fun e w' ⟨he, hp⟩ => ⟨_, he, rfl, hp⟩
    rintro u w1 ⟨rfl, hR1⟩
    clear hR1
    simp only [List.getElem_toArray, List.getElem_cons_succ, List.getElem_cons_zero, Act.put, List.setIfInBounds_toArray, List.set_cons_succ, List.set_cons_zero]
    (repeat (first | (refine Ph.wpP_pass rfl rfl rfl ?_; (try simp only [List.getElem_toArray, List.getElem_cons_succ, List.getElem_cons_zero, Act.put, List.setIfInBounds_toArray, List.set_cons_succ, List.set_cons_zero])) | (apply Ph.wpP_val rfl rfl rfl; (focus (intro t w1 hR; have hc := RFresh.cell _ _ hR; (try simp only [List.getElem_toArray, List.getElem_cons_succ, List.getElem_cons_zero]); (try go_simp); (try exact Eq.refl _); done)); (try simp only [List.getElem_toArray, List.getElem_cons_succ, List.getElem_cons_zero, Act.put, List.setIfInBounds_toArray, List.set_cons_succ, List.set_cons_zero])) | (apply Ph.wpP_call RFresh.mono rfl rfl rfl; (focus (intro t w1 hR; have hc := RFresh.cell _ _ hR; (try simp only [List.getElem_toArray, List.getElem_cons_succ, List.getElem_cons_zero]); (try go_simp); (try exact And.intro rfl rfl); done)); (focus (intro t w1 hR; first | exact beginSource_calls _ _ _)); (try simp only [List.getElem_toArray, List.getElem_cons_succ, List.getElem_cons_zero, Act.put, List.setIfInBounds_toArray, List.set_cons_succ, List.set_cons_zero])) | (apply Ph.wpP_val_want rfl rfl rfl; (focus (intro t w1 hR; have hc := RFresh.cell _ _ hR; (try simp only [List.getElem_toArray, List.getElem_cons_succ, List.getElem_cons_zero]); (try go_simp); (try exact Eq.refl _); done)); (try simp only [List.getElem_toArray, List.getElem_cons_succ, List.getElem_cons_zero, Act.put, List.setIfInBounds_toArray, List.set_cons_succ, List.set_cons_zero])) | (apply Ph.wpP_call_want RFresh.mono rfl rfl rfl; (focus (intro t w1 hR; have hc := RFresh.cell _ _ hR; (try simp only [List.getElem_toArray, List.getElem_cons_succ, List.getElem_cons_zero]); (try go_simp); (try exact And.intro rfl rfl); done)); (focus (intro t w1 hR; first | exact beginSource_calls _ _ _)); (try simp only [List.getElem_toArray, List.getElem_cons_succ, List.getElem_cons_zero, Act.put, List.setIfInBounds_toArray, List.set_cons_succ, List.set_cons_zero]))))
    refine Ph.wpP_nil ?_
    rintro w2 ⟨_, hR2⟩
    have hset := hR2.set (s' := s.begin 1) rfl rfl
    have hlt := hR2.lt
    rw [← wb_self hR2.blk]
    clear hR2 hfr h
    go_wp2_with fail
    go_end0
    exact ⟨rfl, hset⟩
end Go.Proofs.Ytboanmhibbhceaa
