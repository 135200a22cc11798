/- Resolve on both sides: the plain law of its numbers. -/
import Derived.Test.YtboanmhibbhceaaDoorResolve2
import Derived.Test.YtboanmhibbhceaaDoorDMirror
namespace Go.Proofs.YtboanmhibbhceaaDoor
open Go.RowKit
set_option linter.unusedVariables false
set_option linter.unusedSimpArgs false

/-- The quarrel as the other side has it. -/
def swapQ (q : Q) : Q := ⟨q.sb0, q.sb1, q.sb2, if q.node = 0 ∨ q.node = 1 then 1 - q.node else q.node, q.peerRole, q.ownRole, q.peerMarked, q.ownMarked, q.pg, q.og⟩
def swp (z : Int) : Int := if z = 1 then 2 else if z = 2 then 1 else z

theorem validQ_swap (q : Q) : Spec.validQ (swapQ q) = Spec.validQ q := by
  unfold Spec.validQ swapQ
  simp only
  by_cases h1 : (q.node ≠ 0 ∧ q.node ≠ 1) ∨ q.ownMarked < 0 ∨ q.peerMarked < 0
  · rw [if_pos h1, if_pos]
    rcases h1 with h | h | h
    · exact .inl (by rw [if_neg (by omega)]; exact h)
    · exact .inr (.inr h)
    · exact .inr (.inl h)
  · rw [if_neg h1, if_neg]
    · by_cases h2 : q.sb0 < 0 ∨ q.sb0 > 4
      · rw [if_pos h2, if_pos h2]
      · rw [if_neg h2, if_neg h2]
        by_cases h3 : (q.sb1 ≠ 0 ∧ q.sb1 ≠ 5 ∧ q.sb1 ≠ 6) ∨ q.sb2 ≠ 0
        · rw [if_pos h3, if_pos h3]
        · rw [if_neg h3, if_neg h3]
          by_cases h4 : (q.ownRole ≠ 0 ∧ q.ownRole ≠ 1) ∨ (q.peerRole ≠ 0 ∧ q.peerRole ≠ 1)
          · rw [if_pos h4, if_pos (by omega)]
          · rw [if_neg h4, if_neg (by omega)]
    · rw [if_pos (by omega)]; omega

theorem valid_facts {q : Q} (h : Spec.validQ q = 0) : (q.node = 0 ∨ q.node = 1) ∧ 0 ≤ q.ownMarked ∧ 0 ≤ q.peerMarked ∧ (q.ownRole = 0 ∨ q.ownRole = 1) ∧ (q.peerRole = 0 ∨ q.peerRole = 1) ∧ 0 ≤ q.sb0 ∧ q.sb0 ≤ 4 ∧ (q.sb1 = 0 ∨ q.sb1 = 5 ∨ q.sb1 = 6) := by
  unfold Spec.validQ at h
  (repeat' split at h) <;> omega

theorem zero_three (q : Q) : Spec.zero q = 0 ∨ Spec.zero q = 1 ∨ Spec.zero q = 2 := by
  unfold Spec.zero
  (repeat' split) <;> simp

theorem zero_swap {q : Q} (h : Spec.validQ q = 0) : Spec.zero (swapQ q) = swp (Spec.zero q) := by
  obtain ⟨hn, ho, hp, _, _, hs0, hs4, _⟩ := valid_facts h
  clear h
  obtain ⟨sb0, sb1, sb2, node, ro, rp, om, pm, og, pg⟩ := q
  simp only at hn ho hp hs0 hs4
  have hs : sb0 = 0 ∨ sb0 = 1 ∨ sb0 = 2 ∨ sb0 = 3 ∨ sb0 = 4 := by omega
  unfold Spec.zero swapQ swp
  simp only
  rcases hs with rfl | rfl | rfl | rfl | rfl <;> rcases hn with rfl | rfl <;> simp <;> (repeat' split) <;> first | rfl | omega | (exfalso; omega)

theorem mirror_range (k : Int) : (Spec.mirror k < 0 ∨ 7 < Spec.mirror k) ↔ (k < 0 ∨ 7 < k) := by
  unfold Spec.mirror; (repeat' split) <;> omega
theorem mirror_56 {k : Int} (h : ¬ (k = 5 ∨ k = 6)) : ¬ Spec.mirror k = 5 ∧ ¬ Spec.mirror k = 6 := by
  unfold Spec.mirror; (repeat' split) <;> omega
theorem res_split {k r : Int} {q : Q} (hk : k = 5 ∨ k = 6) (hv : Spec.validQ q = 0) :
    Spec.resolve k r q = (if (Spec.who q).1 = 0 then (k, r, 0) else if k = 5 then ((if (Spec.who q).1 = 2 then 1 else 2), (Spec.who q).2, 0) else ((if (Spec.who q).1 = 1 then 4 else 3), (Spec.who q).2, 0)) := by
  unfold Spec.resolve; rw [if_neg (by omega), if_neg (by omega), if_neg (by omega)]

theorem resolve_zz {k r : Int} {q : Q} (hv : Spec.validQ q = 0) (hk : 0 ≤ k) (hk7 : k ≤ 7) :
    ∃ a b c, Spec.resolve k r q = (a, b, c) ∧ Spec.resolve (Spec.mirror k) r (swapQ q) = (Spec.mirror a, b, c) ∧ c = 0 ∧
      (¬ (k = 5 ∨ k = 6) → a = k ∧ b = r) ∧
      ((k = 5 ∨ k = 6) → ((a = 2 ∨ a = 4) ∧ q.ownRole = 0) ∨ ((a = 1 ∨ a = 3) ∧ q.peerRole = 0) ∨ (a = k ∧ b = r)) := by
  have hv' : Spec.validQ (swapQ q) = 0 := (validQ_swap q).trans hv
  by_cases hk56 : k = 5 ∨ k = 6
  · have hm : Spec.mirror k = k := by unfold Spec.mirror; rw [if_neg (by omega), if_neg (by omega), if_neg (by omega), if_neg (by omega)]
    have hz := zero_swap hv
    have h3 := zero_three q
    obtain ⟨hn, ho, hp, hro, hrp, hs0, hs4, hs1⟩ := valid_facts hv
    rw [hm, res_split hk56 hv, res_split hk56 hv']
    unfold Spec.who Spec.one
    rw [hz]
    generalize Spec.zero q = z at h3 ⊢
    obtain ⟨sb0, sb1, sb2, node, ro, rp, om, pm, og, pg⟩ := q
    simp only at hro hrp hs1
    simp only [swapQ]
    clear hv hv' hz hn ho hp hs0 hs4 hm
    rcases hk56 with rfl | rfl <;> rcases hro with rfl | rfl <;> rcases hrp with rfl | rfl <;> cases og <;> cases pg <;> rcases h3 with rfl | rfl | rfl <;> rcases hs1 with rfl | rfl | rfl <;>
      exact ⟨_, _, _, rfl, by simp [Spec.mirror, swp], by simp [swp], by simp, by simp [swp]⟩
  · have hr : ¬ (k < 0 ∨ 7 < k) := by omega
    obtain ⟨m5, m6⟩ := mirror_56 hk56
    exact ⟨k, r, 0, res_other hr hv (fun e => hk56 (.inl e)) (fun e => hk56 (.inr e)), res_other (fun e => hr ((mirror_range k).1 e)) hv' m5 m6, rfl, fun _ => ⟨rfl, rfl⟩, fun h => absurd h hk56⟩

theorem resolve_bad {k r : Int} {q : Q} (h : ¬ (Spec.validQ q = 0 ∧ 0 ≤ k ∧ k ≤ 7)) :
    ∃ c, Spec.resolve k r q = (0, 0, c) ∧ Spec.resolve (Spec.mirror k) r (swapQ q) = (0, 0, c) ∧ (c != 0) = true := by
  by_cases hk : k < 0 ∨ 7 < k
  · exact ⟨1, res_kinds hk, res_kinds ((mirror_range k).2 hk), rfl⟩
  · have hv : ¬ Spec.validQ q = 0 := fun e => h ⟨e, by omega, by omega⟩
    refine ⟨Spec.validQ q, res_valid hk hv, ?_, by simpa using hv⟩
    rw [res_valid (fun e => hk ((mirror_range k).1 e)) (by rw [validQ_swap]; exact hv), validQ_swap]

/-- One primary, SbSecondary: the secondary gives up. -/
theorem resolve_asked {k r node : Int} (hk : k = 5 ∨ k = 6) (hn : node = 0 ∨ node = 1) :
    Spec.resolve k r ⟨0, 5, 0, node, node, 1 - node, 0, 0, false, false⟩ = ((if node = 1 then 1 else 2) + (if k = 6 then 2 else 0), 22, 0) := by
  rcases hk with rfl | rfl <;> rcases hn with rfl | rfl <;> rfl
end Go.Proofs.YtboanmhibbhceaaDoor
