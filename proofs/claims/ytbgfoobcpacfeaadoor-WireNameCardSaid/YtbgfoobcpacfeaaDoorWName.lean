/- Names: the reference's; both the same. -/
import Derived.Test.YtbgfoobcpacfeaaDoorWCmd2
import Derived.Test.YtbgfoobcpacfeaaDoorWLaid
import Derived.Test.YtbgfoobcpacfeaaDoorWLib
namespace Go.Proofs.YtbgfoobcpacfeaaDoor
open Go.RowKit
set_option maxRecDepth 100000
set_option linter.unusedVariables false
set_option linter.unusedSimpArgs false

/-- The world holds the names. -/
def Names (w : World) : Prop := Lies 0 (cmdTab.map fun c => .string ⟨c.1.toArray⟩) w
abbrev nameOf (c : Int) : Value := .tuple (if knownB c then #[.string ⟨(cmdTab[c.toNat]?.getD ([], [])).1.toArray⟩, .int .i64 0] else #[.string ⟨#[]⟩, .int .i64 74])

set_option maxHeartbeats 4000000 in
theorem refName_calls (w : World) (c : Int) (hN : Names w) : Pur Tryd.prog 16 #[.int .i64 c] w (nameOf c) := by
  unfold Pur nameOf
  cases hk : knownB c
  · have h1 : ¬ (1 ≤ c ∧ c < 26) := by simpa [knownB] using hk
    by_cases h2 : c < 1
    · go_enter Tryd.func16, Tryd.ntmps16
      go_wp2
      all_goals go_ret2
      all_goals exact ⟨rfl, (by first | exact Below.refl _ _ | exact below_alloc1 _ _ | exact below_alloc2 _ _ _ | exact below_alloc3 _ _ _ _ | (repeat' (first | assumption | exact Below.refl _ _ | exact below_alloc1 _ _ | exact below_alloc2 _ _ _ | exact below_alloc3 _ _ _ _ | (refine Below.drew ?_) | (refine below_wb ?_ ?_) | (refine Below.alloc ?_ ?_ _) | omega | (simp; done) | (simp; omega))))⟩
    · have h3 : 25 < c := by omega
      go_enter Tryd.func16, Tryd.ntmps16
      go_wp2
      all_goals go_ret2
      all_goals exact ⟨rfl, (by first | exact Below.refl _ _ | exact below_alloc1 _ _ | exact below_alloc2 _ _ _ | exact below_alloc3 _ _ _ _ | (repeat' (first | assumption | exact Below.refl _ _ | exact below_alloc1 _ _ | exact below_alloc2 _ _ _ | exact below_alloc3 _ _ _ _ | (refine Below.drew ?_) | (refine below_wb ?_ ?_) | (refine Below.alloc ?_ ?_ _) | omega | (simp; done) | (simp; omega))))⟩
  · obtain ⟨h1, h2⟩ : 1 ≤ c ∧ c < 26 := by simpa [knownB] using hk
    obtain ⟨k, x, rfl, hk1, hx⟩ := cmd_some h1 h2
    have Hx := Lib.hid hx
    have hcl : w.cell? ⟨0, k, none⟩ = some (.string ⟨x.1.toArray⟩) := hN.2 k _ (by rw [List.getElem?_map, hx]; rfl)
    have h3 : ¬ ((k : Int) < 1) := by omega
    have h4 : ¬ (25 < (k : Int)) := by omega
    have h5 : (0 : Int) ≤ (k : Int) := by omega
    clear hx h1
    go_enter Tryd.func16, Tryd.ntmps16
    go_wp2
    all_goals go_ret2
    all_goals rw [Hx.out]
    all_goals exact ⟨rfl, (by first | exact Below.refl _ _ | exact below_alloc1 _ _ | exact below_alloc2 _ _ _ | exact below_alloc3 _ _ _ _ | (repeat' (first | assumption | exact Below.refl _ _ | exact below_alloc1 _ _ | exact below_alloc2 _ _ _ | exact below_alloc3 _ _ _ _ | (refine Below.drew ?_) | (refine below_wb ?_ ?_) | (refine Below.alloc ?_ ?_ _) | omega | (simp; done) | (simp; omega))))⟩

set_option maxHeartbeats 4000000 in
theorem wireName_calls (w : World) (c : Int) (hN : Names w) : Pur Tryd.prog 3 #[.int .i64 c] w (.bool true) := by
  unfold Pur
  have hN' := hN
  obtain ⟨s, e, hse⟩ : ∃ s e, nameOf c = .tuple #[.string s, .int .i64 e] := by
    unfold nameOf
    split
    · exact ⟨_, _, rfl⟩
    · exact ⟨_, _, rfl⟩
  have Hse := Lib.hid hse
  clear hse
  go_enter Tryd.func3, Tryd.ntmps3
  go_wp2_with fail
  refine (name_calls w c).mono ?_
  rintro e w1 ⟨rfl, hb⟩
  rw [show Value.tuple (if knownB c then _ else _) = _ from Hse.out]
  go_wp2_with fail
  refine (refName_calls w1 c (hN.below hb)).out.mono ?_
  rintro e w2 ⟨rfl, hb2⟩
  rw [Hse.out]
  go_wp2_with (first
    | (go_at_call 17; refine (num_calls _ _).out.mono ?_; rintro e w3 ⟨rfl, hb3⟩; replace hb2 := hb2.trans (hb3.mono hb2.size))
    | fail)
  go_ret
  exact ⟨rfl, hb.trans (hb2.mono hb.size)⟩
end Go.Proofs.YtbgfoobcpacfeaaDoor
