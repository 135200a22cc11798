/- The document's own reading: what the numbers and the data's length may be. (Printed by wip/w7gen/mkrfsp2.py.) -/
import Derived.Test.YtbgfoobcpacfeaaDoorPk8
import Derived.Test.YtbgfoobcpacfeaaDoorRfSp
namespace Go.Proofs.YtbgfoobcpacfeaaDoor
open Go.RowKit
set_option maxRecDepth 100000
set_option linter.unusedVariables false
set_option linter.unusedSimpArgs false

theorem rgv_at {w w0 : World} {G : Nat} (hb : Below w.heap.size w w0) (hG : w0.heap.size = G) (cs : Array Value) (l : List (Int × Int)) (n : Nat) (hn : n = l.length) (hc : cs = (rspC l).toArray) (h4 : l.length ≤ 4) :
    RGv w l (.returned (.slice (some ⟨G, 0, none⟩) n n)) (w0.alloc (.cells cs 164)) := by
  subst hG
  exact rgv_new hb cs l n hn hc h4

set_option maxHeartbeats 8000000 in
theorem rcounts_calls {w : World} {pv : Value} {p : Wi.Pk} (c : Int) (hp : p.Ok) : Calls Tryd.prog 105 #[.int .i64 c, .agg (pkL p pv).toArray] w (RGv w (Wi.rCounts c p)) := by
  have hk : PkAt (w.alloc (.cells (pkL p pv).toArray 34)) w.heap.size p pv := heap_new w _ _ rfl
  have hb1 := below_alloc1 w (.cells (pkL p pv).toArray 34)
  have hs1 : (w.alloc (.cells (pkL p pv).toArray 34)).heap.size = w.heap.size + 1 := by simp
  have hlt := hk.lt
  have c1 := hk.c1
  have c2 := hk.c2
  have c5 := hk.c5
  have wid : IntKind.i64.wrap ((p.id : Nat) : Int) = ((p.id : Nat) : Int) := IntWalk.i64_in _ ⟨by omega, by have := hp.id; omega⟩
  have wbl : IntKind.i64.wrap ((p.block : Nat) : Int) = ((p.block : Nat) : Int) := IntWalk.i64_in _ ⟨by omega, by have := hp.block; omega⟩
  have wsb : IntKind.i64.wrap (64 - ((p.block : Nat) : Int)) = 64 - ((p.block : Nat) : Int) := IntWalk.i64_in _ ⟨by have := hp.block; omega, by omega⟩
  clear hk
  generalize hca : (pkL p pv).toArray = ca at *
  unfold Wi.rCounts
  by_cases h1 : c = 1
  · subst h1
    go_enter Tryd.func105, Tryd.ntmps105
    go_wp2_with fail
    go_ret
    exact rgv_at hb1 hs1 _ [((p.id : Nat), Wi.Most)] 1 rfl rfl (Nat.le_of_ble_eq_true rfl)
  · skip
    by_cases h4 : c = 4
    · subst h4
      go_enter Tryd.func105, Tryd.ntmps105
      go_wp2_with fail
      go_ret
      exact rgv_at hb1 hs1 _ [(128, 128), (256, 256), (512, 512), (1024, 1024)] 4 rfl rfl (Nat.le_of_ble_eq_true rfl)
    · skip
      by_cases h5 : c = 5
      · subst h5
        go_enter Tryd.func105, Tryd.ntmps105
        go_wp2_with fail
        go_ret
        exact rgv_at hb1 hs1 _ [(0, 4096)] 1 rfl rfl (Nat.le_of_ble_eq_true rfl)
      · skip
        by_cases h7 : c = 7
        · subst h7
          by_cases hg : 64 - ((p.block : Nat) : Int) > 8
          · rw [if_neg (by decide), if_neg (by decide), if_neg (by decide), if_pos rfl, if_pos hg]
            have hg1 : (8 : Int) < 64 - ((p.block : Nat) : Int) := hg
            go_enter Tryd.func105, Tryd.ntmps105
            go_wp2_with fail
            go_ret
            exact rgv_at hb1 hs1 _ [(1, 8)] 1 rfl rfl (Nat.le_of_ble_eq_true rfl)
          · rw [if_neg (by decide), if_neg (by decide), if_neg (by decide), if_pos rfl, if_neg hg]
            have hg1 : ¬ (8 : Int) < 64 - ((p.block : Nat) : Int) := hg
            go_enter Tryd.func105, Tryd.ntmps105
            go_wp2_with fail
            go_ret
            exact rgv_at hb1 hs1 _ [(1, 64 - ((p.block : Nat) : Int))] 1 rfl rfl (Nat.le_of_ble_eq_true rfl)
        · skip
          by_cases h13 : c = 13
          · subst h13
            go_enter Tryd.func105, Tryd.ntmps105
            go_wp2_with fail
            go_ret
            exact rgv_at hb1 hs1 _ [(1, 64)] 1 rfl rfl (Nat.le_of_ble_eq_true rfl)
          · skip
            by_cases h14 : c = 14
            · subst h14
              go_enter Tryd.func105, Tryd.ntmps105
              go_wp2_with fail
              go_ret
              exact rgv_at hb1 hs1 _ [(1, 64)] 1 rfl rfl (Nat.le_of_ble_eq_true rfl)
            · skip
              rw [if_neg h1, if_neg h4, if_neg h5, if_neg h7, if_neg h13, if_neg h14]
              go_enter Tryd.func105, Tryd.ntmps105
              go_wp2_with fail
              go_ret
              exact rgv_at hb1 hs1 _ [(0, Wi.Most)] 1 rfl rfl (Nat.le_of_ble_eq_true rfl)

set_option maxHeartbeats 8000000 in
theorem rlengths_calls {w : World} {pv : Value} {p : Wi.Pk} (c : Int) (hp : p.Ok) : Calls Tryd.prog 86 #[.int .i64 c, .agg (pkL p pv).toArray] w (RGv w (Wi.rLengths c p)) := by
  have hk : PkAt (w.alloc (.cells (pkL p pv).toArray 34)) w.heap.size p pv := heap_new w _ _ rfl
  have hb1 := below_alloc1 w (.cells (pkL p pv).toArray 34)
  have hs1 : (w.alloc (.cells (pkL p pv).toArray 34)).heap.size = w.heap.size + 1 := by simp
  have hlt := hk.lt
  have c1 := hk.c1
  have c2 := hk.c2
  have c5 := hk.c5
  clear hk
  generalize hca : (pkL p pv).toArray = ca at *
  unfold Wi.rLengths
  by_cases h2 : c = 2
  · subst h2
    go_enter Tryd.func86, Tryd.ntmps86
    go_wp2_with fail
    go_ret
    exact rgv_at hb1 hs1 _ [(16, 16)] 1 rfl rfl (Nat.le_of_ble_eq_true rfl)
  · skip
    by_cases h7 : c = 7
    · subst h7
      go_enter Tryd.func86, Tryd.ntmps86
      go_wp2_with fail
      go_ret
      exact rgv_at hb1 hs1 _ [(1, 256)] 1 rfl rfl (Nat.le_of_ble_eq_true rfl)
    · skip
      by_cases h25 : c = 25
      · subst h25
        by_cases hf : p.flags = 0
        · rw [if_neg (by decide), if_neg (by decide), if_pos rfl, if_pos hf]
          have hf1 : (((p.flags : Nat) : Int) != 0) = false := by rw [hf]; rfl
          go_enter Tryd.func86, Tryd.ntmps86
          go_wp2_with fail
          go_ret
          exact rgv_at hb1 hs1 _ [(1, 1024)] 1 rfl rfl (Nat.le_of_ble_eq_true rfl)
        · rw [if_neg (by decide), if_neg (by decide), if_pos rfl, if_neg hf]
          have hf1 : (((p.flags : Nat) : Int) != 0) = true := by
            have : ¬ ((p.flags : Nat) : Int) = 0 := by omega
            simpa using this
          go_enter Tryd.func86, Tryd.ntmps86
          go_wp2_with fail
          go_ret
          exact rgv_at hb1 hs1 _ [(0, 0)] 1 rfl rfl (Nat.le_of_ble_eq_true rfl)
      · skip
        rw [if_neg h2, if_neg h7, if_neg h25]
        go_enter Tryd.func86, Tryd.ntmps86
        go_wp2_with fail
        go_ret
        exact rgv_at hb1 hs1 _ [(1, 1024)] 1 rfl rfl (Nat.le_of_ble_eq_true rfl)
end Go.Proofs.YtbgfoobcpacfeaaDoor
