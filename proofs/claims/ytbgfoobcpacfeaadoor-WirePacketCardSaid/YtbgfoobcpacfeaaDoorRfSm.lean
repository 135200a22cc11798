/- The document's own reading: has. -/
import Derived.Test.YtbgfoobcpacfeaaDoorPk8
import Derived.Test.YtbgfoobcpacfeaaDoorRfLong
namespace Go.Proofs.YtbgfoobcpacfeaaDoor
open Go.RowKit
set_option maxRecDepth 100000
set_option linter.unusedVariables false
set_option linter.unusedSimpArgs false

namespace Wi
def carr : List Nat := [0, 25, 128, 64, 26, 56, 16, 138, 135, 7, 3, 3, 19, 12, 12, 83, 3, 131, 3, 8, 67, 19, 8, 32, 3, 147]
def rHas (c f : Nat) : Bool := (carr.getD c 0 / f) % 2 == 1
end Wi
/-- The world holds the table. -/
def Cars (w : World) : Prop := Lies 2 (Wi.carr.map fun n => .int .i64 (n : Nat)) w

set_option maxHeartbeats 4000000 in
theorem rhas_calls {w : World} (hC : Cars w) (c f : Nat) (hc : c < 26) (hf : 0 < f) (hf2 : f ≤ 128) : Pur Tryd.prog 44 #[.int .i64 c, .int .i64 f] w (.bool (Wi.rHas c f)) := by
  unfold Pur
  have hcl : c < Wi.carr.length := hc
  obtain ⟨x, hx⟩ : ∃ x, Wi.carr[c]? = some x := ⟨Wi.carr[c], List.getElem?_eq_getElem hcl⟩
  have hcell := hC.2 c (.int .i64 (x : Nat)) (by rw [List.getElem?_map, hx]; rfl)
  have hlt := hC.1
  have hxs : x ≤ 147 := by
    have hall : ∀ y ∈ Wi.carr, y ≤ 147 := by decide
    exact hall x (List.mem_of_getElem? hx)
  have Hh : Hid (Wi.rHas c f = (x / f % 2 == 1)) := by
    show _ = _
    unfold Wi.rHas
    rw [List.getD_eq_getElem?_getD, hx]
    rfl
  have hc0 : (0 : Int) ≤ (c : Int) := Int.natCast_nonneg c
  have hc26 : (c : Int) < 26 := by omega
  have hf0 : ¬ (f : Int) = 0 := by omega
  have hfb : ((f : Int) == 0) = false := by simpa using hf0
  obtain ⟨d, hd⟩ : ∃ d, d = x / f := ⟨_, rfl⟩
  have hdx : d ≤ 147 := by rw [hd]; exact Nat.le_trans (Nat.div_le_self _ _) hxs
  have wq : IntKind.i64.wrap ((x : Int).tdiv (f : Int)) = (d : Int) := by
    have : (x : Int).tdiv (f : Int) = ((x / f : Nat) : Int) := by
      rw [Int.tdiv_eq_ediv_of_nonneg (Int.natCast_nonneg x)]; push_cast; rfl
    rw [this, ← hd]
    exact IntWalk.i64_in _ ⟨by omega, by omega⟩
  have wq' : IntKind.i64.wrap ((x : Int) / (f : Int)) = (d : Int) := by
    have : (x : Int) / (f : Int) = ((x / f : Nat) : Int) := by push_cast; rfl
    rw [this, ← hd]
    exact IntWalk.i64_in _ ⟨by omega, by omega⟩
  have wr : IntKind.i64.wrap ((d : Int) % 2) = ((d % 2 : Nat) : Int) := by rw [IntWalk.i64_in _ ⟨by omega, by omega⟩]; push_cast; rfl
  have wr' : IntKind.i64.wrap ((d : Int).tmod 2) = ((d % 2 : Nat) : Int) := by
    rw [Int.tmod_eq_emod_of_nonneg (Int.natCast_nonneg d)]
    exact wr
  rw [← hd] at Hh
  have hmb : ((d : Int) % 2 == 1) = (d % 2 == 1) := by rw [Bool.eq_iff_iff]; simp; omega
  clear hx hxs hdx hd hC hcl
  go_enter Tryd.func44, Tryd.ntmps44
  go_wp2_with fail
  go_ret
  rw [Hh.out]
  exact ⟨rfl, Below.refl _ _⟩
end Go.Proofs.YtbgfoobcpacfeaaDoor
