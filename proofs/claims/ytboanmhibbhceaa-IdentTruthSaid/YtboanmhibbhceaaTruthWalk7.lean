/- IdentTruth: a write more: the append to one node's writes. -/
import Derived.Test.YtboanmhibbhceaaTruthWalk6
import Derived.Maps.AppendAt
namespace Go.Proofs.Ytboanmhibbhceaa
open Go.RowKit
set_option linter.unusedVariables false
set_option linter.unusedSimpArgs false

/-- As PS, whatever the block of the play holds. -/
structure PSc (B bp : Nat) (w0 : World) (c : Array Value) (xs ys : List Int) (w : World) (v0 v1 : Value) : Prop where
  below : Below B w0 w
  hB : B ≤ bp
  sB : B ≤ w.heap.size
  blk : w.heap[bp]? = some (.cells c 52 (0, 0))
  o0 : Own B w v0 xs
  o1 : Own B w v1 ys
  d0 : v0.ownBlock ≠ some bp
  d1 : v1.ownBlock ≠ some bp
  d : ∀ k, v0.ownBlock = some k → v1.ownBlock ≠ some k

variable {B bp : Nat} {w0 w w' : World} {c c' : Array Value} {xs ys : List Int} {v0 v1 : Value} {s : Truth.St}

theorem PS.toC (h : PS B bp w0 s w v0 v1) : PSc B bp w0 (pcells s v0 v1) s.a.has s.b.has w v0 v1 := ⟨h.below, h.hB, h.sB, h.blk, h.o0, h.o1, h.d0, h.d1, h.d⟩
theorem PSc.toPS (h : PSc B bp w0 (pcells s v0 v1) s.a.has s.b.has w v0 v1) : PS B bp w0 s w v0 v1 := ⟨h.below, h.hB, h.sB, h.blk, h.o0, h.o1, h.d0, h.d1, h.d⟩

theorem Own.grow {v : Value} (ho : Own B w v xs) (hb : Below w.heap.size w w') : Own B w' v xs := by
  obtain ⟨hl, h1 | ⟨g, cap, cur, e, hB, hg, hn, hc, hs, ht⟩⟩ := ho
  · exact ⟨hl, .inl h1⟩
  · exact ⟨hl, .inr ⟨g, cap, cur, e, hB, (hb.block _ (heap_lt hg)).trans hg, hn, hc, hs, ht⟩⟩
theorem Own.other {v : Value} {r : Option Nat} (ho : Own B w v xs) (hg : w.grownBy w' r) (hne : ∀ k, v.ownBlock = some k → r ≠ some k) : Own B w' v xs := by
  obtain ⟨hl, h1 | ⟨g, cap, cur, e, hB, hgg, hn, hc, hs, ht⟩⟩ := ho
  · exact ⟨hl, .inl h1⟩
  · exact ⟨hl, .inr ⟨g, cap, cur, e, hB, (hg.block _ (heap_lt hgg) (fun e' => hne g (by rw [e]; rfl) e'.symm)).trans hgg, hn, hc, hs, ht⟩⟩
theorem Own.lt {v : Value} (ho : Own B w v xs) : ∀ k, v.ownBlock = some k → B ≤ k ∧ k < w.heap.size := fun k hk => World.ownsRow.lt ho k hk
theorem Own.wb {v : Value} {b : Nat} {c : Array Value} {t : TypeId} (ho : Own B w v xs) (hne : v.ownBlock ≠ some b) : Own B (w.wb b c t) v xs := by
  obtain ⟨hl, h1 | ⟨g, cap, cur, e, hB, hg, hn, hc, hs, ht⟩⟩ := ho
  · exact ⟨hl, .inl h1⟩
  · refine ⟨hl, .inr ⟨g, cap, cur, e, hB, (heap_wb_ne ?_).trans hg, hn, hc, hs, ht⟩⟩
    rintro rfl
    exact hne (by rw [e]; rfl)

theorem PSc.grow (h : PSc B bp w0 c xs ys w v0 v1) (hb : Below w.heap.size w w') : PSc B bp w0 c xs ys w' v0 v1 :=
  ⟨h.below.trans (hb.mono h.sB), h.hB, Nat.le_trans h.sB hb.size, (hb.block _ (heap_lt h.blk)).trans h.blk, h.o0.grow hb, h.o1.grow hb, h.d0, h.d1, h.d⟩
theorem PSc.put (h : PSc B bp w0 c xs ys w v0 v1) (c' : Array Value) : PSc B bp w0 c' xs ys (w.wb bp c' 52) v0 v1 :=
  ⟨below_wb h.below h.hB, h.hB, by simpa using h.sB, heap_wb (heap_lt h.blk), h.o0.wb h.d0, h.o1.wb h.d1, h.d0, h.d1, h.d⟩
theorem PSc.swap (h : PSc B bp w0 c xs ys w v0 v1) : PSc B bp w0 c ys xs w v1 v0 :=
  ⟨h.below, h.hB, h.sB, h.blk, h.o1, h.o0, h.d1, h.d0, fun k hk e => h.d k e hk⟩

theorem tu3 : Try.prog.underlying 49 = some (.slice 3) := by kernel_rfl
theorem ti3 : (Try.prog.info? 3).map (fun i => (i.zero, i.size, i.bytes)) = some (some (.int .i64 0), 1, 8) := by kernel_rfl

theorem append_own {x : Int} {b cap : Nat} (h : PSc B bp w0 c xs ys w v0 v1) (hb : w.cell? ⟨b, 0, none⟩ = some (.int .i64 x)) (hn : xs.length + 1 ≤ 17592186044416) :
    ∃ v' w', (Builtin.append_ #[49, 49] 49 #[v0, .slice (some ⟨b, 0, none⟩) 1 cap]).run Try.prog w = .ok v' w' ∧ PSc B bp w0 c (xs ++ [x]) ys w' v' v1 := by
  obtain ⟨i, hi, hz⟩ : ∃ i, Try.prog.info? 3 = some i ∧ i.zero = some (.int .i64 0) ∧ i.size = 1 ∧ i.bytes = 8 := by
    have := ti3
    cases hi : Try.prog.info? 3 with
    | none => rw [hi] at this; cases this
    | some i =>
      rw [hi] at this
      simp only [Option.map_some, Option.some.injEq, Prod.mk.injEq] at this
      exact ⟨i, rfl, this⟩
  obtain ⟨v', w', hr, ho, hg, _, hat⟩ := run_append_own_at (P := Try.prog) w B 49 49 3 i (.int .i64 0) 1 8 tu3 hi hz.1 hz.2.1 hz.2.2 rfl (by decide) v0 xs.length (xs.map (Value.int .i64)) h.o0 ⟨b, 0, none⟩ 1 cap [.int .i64 x] rfl
    (fun j u hj => by
      match j, hj with
      | 0, hj => cases hj; exact hb) (fun u hu => by
      have : u = .int .i64 x := by simpa using hu
      subst this; rfl) (by show xs.length + 1 ≤ 9223372036854775807; omega) (by omega) h.sB
  have hlt := heap_lt h.blk
  refine ⟨v', w', hr, ?_⟩
  have hne : some bp ≠ v0.ownBlock := fun e => h.d0 e.symm
  refine ⟨?_, h.hB, Nat.le_trans h.sB hg.size, (hg.block _ hlt hne).trans h.blk, ?_, h.o1.other hg (fun k hk e => h.d k e hk), ?_, h.d1, ?_⟩
  · exact h.below.grown hg h.sB (fun k hk => (h.o0.lt k hk).1)
  · show w'.ownsRow B 3 1 v' (xs ++ [x]).length ((xs ++ [x]).map (Value.int .i64))
    rw [List.length_append, List.map_append]
    exact ho
  · rcases hat with e | e
    · rw [e]; exact h.d0
    · rw [e]; intro e'; injection e' with e'; omega
  · intro k hk e
    rcases hat with e' | e'
    · exact h.d k (by rw [← e']; exact hk) e
    · rw [e'] at hk
      injection hk with hk
      have := (h.o1.lt k e).2
      omega
end Go.Proofs.Ytboanmhibbhceaa
