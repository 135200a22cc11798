/- bytes.Clone: bytes of its own. -/
import Derived.Test.YtbgfoobcpacfeaaMk
namespace Go.Proofs.Ytbgfoobcpacfeaa
open Go.RowKit
set_option linter.unusedVariables false
set_option linter.unusedSimpArgs false

theorem wb_again (w : World) (b : Nat) (c c' : Array Value) (t : TypeId) : (w.wb b c t).wb b c' t = w.wb b c' t := by
  unfold World.wb
  simp

set_option maxRecDepth 100000 in
set_option maxHeartbeats 4000000 in
theorem clone_calls {w : World} {v : Value} {l : List UInt8} (h : RB w v l) :
    Calls Try.prog 25 #[v] w fun e w' => ∃ v', e = .returned v' ∧ OB w.heap.size w' v' l ∧ Below w.heap.size w w' := by
  have hv : RB (w.alloc (.cells #[] 5)) v l := h.below (below_alloc1 _ _)
  have hm0 : Mk w.heap.size w (w.alloc (.cells #[] 5)) (.slice (some ⟨w.heap.size, 0, none⟩) 0 0) [] := Mk.lit (Nat.le_refl _) (Below.refl _ _) #[] [] 0 rfl rfl (by simp)
  have hlen := h.len
  obtain ⟨p, c, rfl⟩ := h.form
  cases p with
  | none =>
    have hl : l = [] := by
      cases l with
      | nil => rfl
      | cons b r => obtain ⟨g, o, e, _⟩ := h.addr (by simp); cases e
    subst hl
    go_enter Try.func25, Try.ntmps25
    go_wp2_with fail
    go_ret
    exact ⟨_, rfl, OB.nil_ _ _, Below.refl _ _⟩
  | some a =>
    go_enter Try.func25, Try.ntmps25
    go_wp2_with (first
      | (at_builtin
         refine wpList_append_Mk (.slice (some ⟨w.heap.size, 0, none⟩) 0 0) l (.tmp 5) (.tmp 6) rfl rfl rfl rfl rfl hm0 hv (by simpa using hlen) ?_
         intro v1 w1 hm1)
      | fail)
    go_ret
    exact ⟨_, rfl, by simpa using hm1.own, hm1.below⟩
end Go.Proofs.Ytbgfoobcpacfeaa
