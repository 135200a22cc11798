/- Rows of the call's own; what changed (Mod); the program's bitmap in memory. -/
import Derived.Test.YtckbckdaffdjmaaDoorBu
import Derived.Test.YtckbckdaffdjmaaDoorBmSpec2
import Derived.Laws.BitsAllLaws
import Derived.Deep.OwnRows
namespace Go.Proofs.YtckbckdaffdjmaaDoor
open Go.RowKit
set_option linter.unusedVariables false
set_option linter.unusedSimpArgs false

/-- What was there is as it was, but for the blocks of F. -/
structure Mod (F : Nat → Prop) (w w' : World) : Prop where
  os : w'.os = w.os
  tape : w'.tape = w.tape
  output : w'.output = w.output
  size : w.heap.size ≤ w'.heap.size
  block : ∀ k, k < w.heap.size → ¬ F k → w'.heap[k]? = w.heap[k]?
theorem Mod.refl (F : Nat → Prop) (w : World) : Mod F w w := ⟨rfl, rfl, rfl, Nat.le_refl _, fun _ _ _ => rfl⟩
theorem Mod.trans {F : Nat → Prop} {w w' w'' : World} (h : Mod F w w') (k : Mod F w' w'') : Mod F w w'' :=
  ⟨k.os.trans h.os, k.tape.trans h.tape, k.output.trans h.output, Nat.le_trans h.size k.size, fun i hi hf => (k.block i (Nat.lt_of_lt_of_le hi h.size) hf).trans (h.block i hi hf)⟩
theorem Mod.mono {F G : Nat → Prop} {w w' : World} (h : Mod F w w') (hg : ∀ k, k < w.heap.size → F k → G k) : Mod G w w' :=
  ⟨h.os, h.tape, h.output, h.size, fun i hi hf => h.block i hi (fun e => hf (hg i hi e))⟩
theorem Mod.of_below {F : Nat → Prop} {w w' : World} (h : Below w.heap.size w w') : Mod F w w' := ⟨h.os, h.tape, h.output, h.size, fun k hk _ => h.block k hk⟩
theorem Mod.below {F : Nat → Prop} {w w' : World} {B : Nat} (h : Mod F w w') (hB : B ≤ w.heap.size) (hf : ∀ k, F k → B ≤ k) : Below B w w' :=
  ⟨h.os, h.tape, h.output, h.size, fun k hk => h.block k (by omega) (fun e => by have := hf k e; omega)⟩
/-- Behind blocks that were made since. -/
theorem Mod.new {F : Nat → Prop} {w w1 w' : World} (hb : Below w.heap.size w w1) (h : Mod (fun k => F k ∨ w.heap.size ≤ k) w1 w') : Mod F w w' :=
  ⟨h.os.trans hb.os, h.tape.trans hb.tape, h.output.trans hb.output, Nat.le_trans hb.size h.size, fun k hk hf => (h.block k (Nat.lt_of_lt_of_le hk hb.size) (fun e => e.elim hf (by omega))).trans (hb.block k hk)⟩
theorem Mod.blk {F : Nat → Prop} {w w' : World} {k : Nat} {o : Obj} (h : Mod F w w') (hk : w.heap[k]? = some o) (hf : ¬ F k) : w'.heap[k]? = some o := (h.block k (heap_lt hk) hf).trans hk
theorem Mod.setCell {F : Nat → Prop} (w : World) (b o : Nat) (v : Value) (hf : F b) : Mod F w (w.setCell ⟨b, o, none⟩ v) :=
  ⟨rfl, rfl, rfl, by simp [World.setCell], fun k hk hn => by
    unfold World.setCell
    rw [Array.getElem?_modify, if_neg (by intro e; exact hn (e ▸ hf))]⟩
theorem Mod.wb {F : Nat → Prop} (w : World) (b : Nat) (c : Array Value) (t : TypeId) (hf : F b) : Mod F w (w.wb b c t) :=
  ⟨rfl, rfl, rfl, by simp, fun k hk hn => heap_wb_ne (by intro e; exact hn (e ▸ hf))⟩
theorem RU.mod {F : Nat → Prop} {w w' : World} {v : Value} {l : List UInt64} (h : RU w v l) (hm : Mod F w w') (hf : l ≠ [] → ∀ g, v.ownBlock = some g → ¬ F g) : RU w' v l :=
  h.keep hm.size fun hl g o e hg => World.cell?_of_block (hm.block g hg (hf hl g e))

/-- A block of cells. -/
abbrev Rw (w : World) (g : Nat) (t : TypeId) (vs : List Value) : Prop := w.heap[g]? = some (.cells vs.toArray t (0, 0))
theorem Rw.cell {w : World} {g : Nat} {t : TypeId} {vs : List Value} (h : Rw w g t vs) {i : Nat} {v : Value} (hv : vs[i]? = some v) : w.cell? ⟨g, i, none⟩ = some v := by
  rw [has_cell h]; simpa using hv
theorem Rw.frozen {w : World} {g : Nat} {t : TypeId} {vs : List Value} (h : Rw w g t vs) (i : Nat) : w.frozen? ⟨g, i, none⟩ = false := by simp [World.frozen?, h]
theorem Rw.set {w : World} {g : Nat} {t : TypeId} {vs : List Value} (h : Rw w g t vs) (i : Nat) (v : Value) : Rw (w.setCell ⟨g, i, none⟩ v) g t (vs.set i v) := by
  have hlt := heap_lt h
  have hv : w.heap[g] = .cells vs.toArray t (0, 0) := (Array.getElem?_eq_some_iff.1 h).2
  unfold Rw World.setCell
  rw [Array.getElem?_eq_getElem (by simpa using hlt), Array.getElem_modify]
  simp [hv]
theorem Rw.other {w : World} {g b : Nat} {t : TypeId} {vs : List Value} (h : Rw w g t vs) (hne : b ≠ g) (i : Nat) (v : Value) : Rw (w.setCell ⟨b, i, none⟩ v) g t vs := by
  unfold Rw World.setCell
  rw [Array.getElem?_modify, if_neg hne]; exact h
theorem Rw.mod {F : Nat → Prop} {w w' : World} {g : Nat} {t : TypeId} {vs : List Value} (h : Rw w g t vs) (hm : Mod F w w') (hf : ¬ F g) : Rw w' g t vs := hm.blk h hf
theorem Rw.below {w w' : World} {g : Nat} {t : TypeId} {vs : List Value} (h : Rw w g t vs) (hb : Below w.heap.size w w') : Rw w' g t vs := blk_below h hb
/-- A block of words reads as words. -/
theorem Rw.ru {w : World} {g n c : Nat} {W : List UInt64} {t : List Value} (h : Rw w g 58 (W.map uv ++ t)) (hn : n = W.length) (hc : n ≤ c) (hm : c ≤ maxLen) (hl : n ≤ 17592186044416) : RU w (.slice (some ⟨g, 0, none⟩) n c) W := by
  subst hn
  refine ⟨_, c, rfl, hc, hm, hl, fun i b hb => ⟨g, 0, rfl, heap_lt h, ?_⟩⟩
  rw [Nat.zero_add]
  refine h.cell ?_
  rw [List.getElem?_append_left (by simpa using (List.getElem?_eq_some_iff.1 hb).1)]
  simp [hb]

/-- The program's bitmap. -/
structure BM (w : World) (p bw ba n : Nat) (W : List UInt64) : Prop where
  hs : Rw w p 100 [.int .i64 (n : Int), .slice (some ⟨bw, 0, none⟩) (Bm.room n) (Bm.room n), .slice (some ⟨ba, 0, none⟩) (Bm.room (Bm.room n)) (Bm.room (Bm.room n)), .int .i64 (Bm.ones' W : Nat)]
  hw : Rw w bw 58 (W.map uv)
  ha : Rw w ba 58 ((Bm.upper W).map uv)
  n1 : bw ≠ p
  n2 : ba ≠ p
  n3 : ba ≠ bw
  ok : Bm.Ok n W
/-- Its blocks. -/
def BM.At (p bw ba : Nat) (k : Nat) : Prop := k = p ∨ k = bw ∨ k = ba
theorem BM.mod {F : Nat → Prop} {w w' : World} {p bw ba n : Nat} {W : List UInt64} (h : BM w p bw ba n W) (hm : Mod F w w') (h1 : ¬ F p) (h2 : ¬ F bw) (h3 : ¬ F ba) : BM w' p bw ba n W :=
  ⟨h.hs.mod hm h1, h.hw.mod hm h2, h.ha.mod hm h3, h.n1, h.n2, h.n3, h.ok⟩
theorem BM.below {w w' : World} {p bw ba n : Nat} {W : List UInt64} (h : BM w p bw ba n W) (hb : Below w.heap.size w w') : BM w' p bw ba n W :=
  h.mod (F := fun _ => False) (Mod.of_below hb) id id id
theorem BM.room_le {w : World} {p bw ba n : Nat} {W : List UInt64} (h : BM w p bw ba n W) : Bm.room n ≤ 1024 ∧ Bm.room (Bm.room n) ≤ 16 := by
  have := h.ok.max
  unfold Bm.room; omega
end Go.Proofs.YtckbckdaffdjmaaDoor
