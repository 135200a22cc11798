/- Resolve of the document: one plain function of its numbers, the same as the program's. -/
import Derived.Test.YtboanmhibbhceaaResolve2
import Derived.Test.YtboanmhibbhceaaRefResolve
namespace Go.Proofs.Ytboanmhibbhceaa
open Go.RowKit
set_option linter.unusedVariables false
set_option linter.unusedSimpArgs false

/-- The answer of two full sides (k = 5) or a full resync (k = 6), where zero - 1 is z. -/
def resP (k r : Int) (og pg : Bool) (ro rp sb1 z : Int) : Int × Int × Int :=
  if og = true ∧ pg = false ∧ ro = 0 then ((if k = 5 then 2 else 4), 21, 0)
  else if pg = true ∧ og = false ∧ rp = 0 then ((if k = 5 then 1 else 3), 21, 0)
  else if ro = 0 ∧ rp = 0 then (if z < 0 then (k, r, 0) else if z = 1 then ((if k = 5 then 1 else 3), 22, 0) else ((if k = 5 then 2 else 4), 22, 0))
  else if ro ≠ rp then (if sb1 = 5 ∨ (sb1 = 6 ∧ z = ro) then (if ro = 1 then ((if k = 5 then 1 else 3), 22, 0) else ((if k = 5 then 2 else 4), 22, 0)) else (k, r, 0))
  else (k, r, 0)

theorem zero_range (q : Q) : Spec.zero q = 0 ∨ Spec.zero q = 1 ∨ Spec.zero q = 2 := by
  unfold Spec.zero
  (repeat' split) <;> simp

theorem resP_eq {k r : Int} {q : Q} (hk : k = 5 ∨ k = 6) (hv : Spec.validQ q = 0) : resP k r q.og q.pg q.ownRole q.peerRole q.sb1 (Spec.zero q - 1) = Spec.resolve k r q := by
  have hr : (q.ownRole = 0 ∨ q.ownRole = 1) ∧ (q.peerRole = 0 ∨ q.peerRole = 1) := by
    by_cases h : (q.ownRole ≠ 0 ∧ q.ownRole ≠ 1) ∨ (q.peerRole ≠ 0 ∧ q.peerRole ≠ 1)
    · exfalso; revert hv; unfold Spec.validQ; rw [if_pos h]; (repeat' split) <;> omega
    · omega
  unfold Spec.resolve
  rw [if_neg (by omega), if_neg (by omega), if_neg (by omega)]
  obtain ⟨sb0, sb1, sb2, node, ro, rp, om, pm, og, pg⟩ := q
  simp only at hr ⊢
  unfold Spec.who Spec.one resP
  have hz := zero_range ⟨sb0, sb1, sb2, node, ro, rp, om, pm, og, pg⟩
  generalize Spec.zero ⟨sb0, sb1, sb2, node, ro, rp, om, pm, og, pg⟩ = z at hz ⊢
  simp only
  obtain ⟨h1 | h1, h2 | h2⟩ := hr <;> subst h1 <;> subst h2 <;> rcases hk with rfl | rfl <;> rcases hz with rfl | rfl | rfl <;> cases og <;> cases pg <;> simp
  all_goals first | done | ((repeat' split) <;> first | rfl | (exfalso; omega) | (simp_all; done) | (exfalso; simp_all; omega))

theorem wrong_0 {k : Int} {q : Q} (h : k < 0 ∨ 7 < k) : Spec.wrong k q = 1 := by unfold Spec.wrong; rw [if_pos h]
theorem wrong_1 {k : Int} {q : Q} (h : ¬ (k < 0 ∨ 7 < k)) : Spec.wrong k q = Spec.validQ q := by unfold Spec.wrong; rw [if_neg h]

set_option maxRecDepth 100000 in
set_option maxHeartbeats 8000000 in
theorem refResolve_wrong (k r node sb0 sb1 sb2 ownRole peerRole ownMarked peerMarked ownFlags peerFlags : Int) (w : World) (e : Int) (he : Spec.wrong k (⟨sb0, sb1, sb2, node, ownRole, peerRole, ownMarked, peerMarked, Go.bits .and .u32 ownFlags 16 != 0, Go.bits .and .u32 peerFlags 16 != 0⟩ : Q) = e) (h : (e != 0) = true) :
    Pur Try.prog 21 (resArgs k r node sb0 sb1 sb2 ownRole peerRole ownMarked peerMarked ownFlags peerFlags) w (vr (0, 0, e)) := by
  unfold Pur
  have He := Lib.hid he
  clear he
  go_enter Try.func21, Try.ntmps21
  go_wp2_with (first | (go_at_call 32; refine (wrong_calls k r _ _ _ _ _ _ _ _ (Go.bits .and .u32 ownFlags 16 != 0) (Go.bits .and .u32 peerFlags 16 != 0) _).out.mono ?_; rw [He.out]; rintro e w1 ⟨rfl, hb1⟩; obtain ⟨w2, rfl, hb3, hz0, hz1⟩ := behind_alloc2 hb1; clear hb1; have hn0 := Nat.ne_of_lt hz0; have hn1 := Nat.ne_of_lt hz1) | fail)
  exact bodyPost_ret (v := vr (0, 0, e)) (by simp [results, Try.results21, go_sem, hz1]) rfl ⟨rfl, (by first | exact Below.refl _ _ | exact below_alloc1 _ _ | exact below_alloc2 _ _ _ | exact below_alloc3 _ _ _ _ | (repeat' (first | assumption | exact Below.refl _ _ | exact below_alloc1 _ _ | exact below_alloc2 _ _ _ | exact below_alloc3 _ _ _ _ | (refine Below.drew ?_) | (refine below_wb ?_ ?_) | (refine Below.alloc ?_ ?_ _) | omega | (simp; done) | (simp; omega))))⟩

set_option maxRecDepth 100000 in
set_option maxHeartbeats 8000000 in
theorem refResolve_other (k r node sb0 sb1 sb2 ownRole peerRole ownMarked peerMarked ownFlags peerFlags : Int) (w : World) (he : Spec.wrong k (⟨sb0, sb1, sb2, node, ownRole, peerRole, ownMarked, peerMarked, Go.bits .and .u32 ownFlags 16 != 0, Go.bits .and .u32 peerFlags 16 != 0⟩ : Q) = 0) (e5 : (k != 5) = true) (e6 : (k != 6) = true) :
    Pur Try.prog 21 (resArgs k r node sb0 sb1 sb2 ownRole peerRole ownMarked peerMarked ownFlags peerFlags) w (vr (k, r, 0)) := by
  unfold Pur
  have He := Lib.hid he
  clear he
  go_enter Try.func21, Try.ntmps21
  go_wp2_with (first | (go_at_call 32; refine (wrong_calls k r _ _ _ _ _ _ _ _ (Go.bits .and .u32 ownFlags 16 != 0) (Go.bits .and .u32 peerFlags 16 != 0) _).out.mono ?_; rw [He.out]; rintro e w1 ⟨rfl, hb1⟩; obtain ⟨w2, rfl, hb3, hz0, hz1⟩ := behind_alloc2 hb1; clear hb1; have hn0 := Nat.ne_of_lt hz0; have hn1 := Nat.ne_of_lt hz1) | fail)
  exact bodyPost_ret (v := vr (k, r, 0)) (by simp [results, Try.results21, go_sem, hz1]) rfl ⟨rfl, (by first | exact Below.refl _ _ | exact below_alloc1 _ _ | exact below_alloc2 _ _ _ | exact below_alloc3 _ _ _ _ | (repeat' (first | assumption | exact Below.refl _ _ | exact below_alloc1 _ _ | exact below_alloc2 _ _ _ | exact below_alloc3 _ _ _ _ | (refine Below.drew ?_) | (refine below_wb ?_ ?_) | (refine Below.alloc ?_ ?_ _) | omega | (simp; done) | (simp; omega))))⟩

end Go.Proofs.Ytboanmhibbhceaa
