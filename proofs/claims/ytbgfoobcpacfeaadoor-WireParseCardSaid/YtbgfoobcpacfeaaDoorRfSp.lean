/- The document's own reading: what the fields may be. -/
import Derived.Test.YtbgfoobcpacfeaaDoorPk8
namespace Go.Proofs.YtbgfoobcpacfeaaDoor
open Go.RowKit
set_option maxRecDepth 100000
set_option linter.unusedVariables false
set_option linter.unusedSimpArgs false

namespace Wi
abbrev Most : Int := 4294967295
def rFlags (c : Int) : List (Int × Int) := if c = 5 then [(0, 31)] else if c = 6 then [(0, 1), (4, 5), (8, 9)] else if c = 12 then [(1, 255)] else if c = 15 then [(0, 1)] else if c = 21 then [(0, 1)] else if c = 25 then [(0, 255)] else [(0, Most)]
def rCounts (c : Int) (p : Pk) : List (Int × Int) := if c = 1 then [((p.id : Nat), Most)] else if c = 4 then [(128, 128), (256, 256), (512, 512), (1024, 1024)] else if c = 5 then [(0, 4096)]
  else if c = 7 then [(1, if 64 - ((p.block : Nat) : Int) > 8 then 8 else 64 - ((p.block : Nat) : Int))] else if c = 13 then [(1, 64)] else if c = 14 then [(1, 64)] else [(0, Most)]
def rLengths (c : Int) (p : Pk) : List (Int × Int) := if c = 2 then [(16, 16)] else if c = 7 then [(1, 256)] else if c = 25 then (if p.flags = 0 then [(1, 1024)] else [(0, 0)]) else [(1, 1024)]
def rNumbers (c f : Int) (p : Pk) : List (Int × Int) :=
  if f = 1 then (if c = 1 then [(0, Most)] else [(1, 2147483647)]) else if f = 2 then (if c = 4 then [(1, 4096)] else if c = 7 then [(0, 63)] else [(0, 4095)]) else if f = 4 then [(1, Most)] else if f = 8 then rCounts c p else if f = 16 then rFlags c else [(0, Most)]
def rInside (x : Int) (l : List (Int × Int)) : Bool := l.any fun s => decide (s.1 ≤ x) && decide (x ≤ s.2)
end Wi
/-- v is a slice that reads as the spans l. -/
def RSp (w : World) (v : Value) (l : List (Int × Int)) : Prop :=
  ∃ g c, v = .slice (some ⟨g, 0, none⟩) l.length c ∧ (∃ cs fz, w.heap[g]? = some (.cells cs 164 fz)) ∧ l.length ≤ 4 ∧ l.length ≤ c ∧ ∀ i s, l[i]? = some s → w.cell? ⟨g, i * 2, none⟩ = some (.int .i64 s.1) ∧ w.cell? ⟨g, i * 2 + 1, none⟩ = some (.int .i64 s.2)
theorem RSp.below {w w' : World} {v : Value} {l : List (Int × Int)} (h : RSp w v l) (hb : Below w.heap.size w w') : RSp w' v l := by
  obtain ⟨g, c, rfl, ⟨cs, fz, hk⟩, h4, hc, hr⟩ := h
  have hg := heap_lt hk
  refine ⟨g, c, rfl, ⟨cs, fz, blk_below hk hb⟩, h4, hc, fun i s hs => ?_⟩
  obtain ⟨h1, h2⟩ := hr i s hs
  exact ⟨((bcell hb).1 g _ hg).trans h1, ((bcell hb).1 g _ hg).trans h2⟩
abbrev rspC (l : List (Int × Int)) : List Value := l.flatMap fun s => [.int .i64 s.1, .int .i64 s.2]
theorem rspC_at : ∀ (l : List (Int × Int)) (i : Nat) (s : Int × Int), l[i]? = some s → (rspC l)[i * 2]? = some (.int .i64 s.1) ∧ (rspC l)[i * 2 + 1]? = some (.int .i64 s.2)
  | [], i, s, h => by simp at h
  | x :: l, 0, s, h => by
    simp only [List.getElem?_cons_zero, Option.some.injEq] at h
    subst h
    exact ⟨rfl, rfl⟩
  | x :: l, i + 1, s, h => by
    have := rspC_at l i s (by simpa using h)
    rw [show (i + 1) * 2 = i * 2 + 1 + 1 by omega]
    exact this
/-- What such a function gives: spans in memory of its own. -/
def RGv (w : World) (l : List (Int × Int)) (e : Ending) (w' : World) : Prop := ∃ v, e = .returned v ∧ RSp w' v l ∧ (∀ g, v.ownBlock = some g → w.heap.size ≤ g) ∧ Below w.heap.size w w'
theorem rgv_new {w w0 : World} (hb : Below w.heap.size w w0) (cs : Array Value) (l : List (Int × Int)) (n : Nat) (hn : n = l.length) (hc : cs = (rspC l).toArray) (h4 : l.length ≤ 4) :
    RGv w l (.returned (.slice (some ⟨w0.heap.size, 0, none⟩) n n)) (w0.alloc (.cells cs 164)) := by
  subst hn hc
  refine ⟨_, rfl, ⟨_, _, rfl, ⟨_, _, heap_new w0 _ _ rfl⟩, h4, Nat.le_refl _, fun i s hs => ?_⟩, fun g e => by cases e; exact hb.size, hb.trans ((below_alloc1 w0 _).mono hb.size)⟩
  have h := rspC_at l i s hs
  have hk := has_cell (heap_new w0 (.cells (rspC l).toArray 164) w0.heap.size rfl)
  exact ⟨by rw [hk]; simpa using h.1, by rw [hk]; simpa using h.2⟩

set_option maxHeartbeats 4000000 in
theorem rflags_calls (w : World) (c : Int) : Calls Tryd.prog 106 #[.int .i64 c] w (RGv w (Wi.rFlags c)) := by
  unfold Wi.rFlags
  by_cases h5 : c = 5
  · subst h5; go_enter Tryd.func106, Tryd.ntmps106; go_wp2_with fail; go_ret; exact rgv_new (Below.refl _ _) _ _ 1 rfl rfl (by decide)
  · by_cases h6 : c = 6
    · subst h6; go_enter Tryd.func106, Tryd.ntmps106; go_wp2_with fail; go_ret; exact rgv_new (Below.refl _ _) _ _ 3 rfl rfl (by decide)
    · by_cases h12 : c = 12
      · subst h12; go_enter Tryd.func106, Tryd.ntmps106; go_wp2_with fail; go_ret; exact rgv_new (Below.refl _ _) _ _ 1 rfl rfl (by decide)
      · by_cases h15 : c = 15
        · subst h15; go_enter Tryd.func106, Tryd.ntmps106; go_wp2_with fail; go_ret; exact rgv_new (Below.refl _ _) _ _ 1 rfl rfl (by decide)
        · by_cases h21 : c = 21
          · subst h21; go_enter Tryd.func106, Tryd.ntmps106; go_wp2_with fail; go_ret; exact rgv_new (Below.refl _ _) _ _ 1 rfl rfl (by decide)
          · by_cases h25 : c = 25
            · subst h25; go_enter Tryd.func106, Tryd.ntmps106; go_wp2_with fail; go_ret; exact rgv_new (Below.refl _ _) _ _ 1 rfl rfl (by decide)
            · rw [if_neg h5, if_neg h6, if_neg h12, if_neg h15, if_neg h21, if_neg h25]
              go_enter Tryd.func106, Tryd.ntmps106; go_wp2_with fail; go_ret; exact rgv_new (Below.refl _ _) _ _ 1 rfl rfl (by decide)
end Go.Proofs.YtbgfoobcpacfeaaDoor
