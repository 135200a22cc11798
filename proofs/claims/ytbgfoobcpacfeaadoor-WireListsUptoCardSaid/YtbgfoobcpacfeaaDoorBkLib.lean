/- A Book: rows of lists of bytes that grow; whose block is whose is told by tags. -/
import Derived.Test.YtbgfoobcpacfeaaDoorPk8
namespace Go.Proofs.YtbgfoobcpacfeaaDoor
open Go.RowKit
set_option maxRecDepth 100000
set_option linter.unusedVariables false
set_option linter.unusedSimpArgs false

theorem ls_tu : Tryd.prog.underlying 63 = some (.slice 32) := by kernel_rfl
theorem ls_ti : (Tryd.prog.info? 32).map (fun i => (i.zero, i.size, i.bytes)) = some (some (.slice none 0 0), 1, 24) := by kernel_rfl
theorem ls_info : ∃ i, Tryd.prog.info? 32 = some i ∧ i.zero = some (.slice none 0 0) ∧ i.size = 1 ∧ i.bytes = 24 := by
  have h := ls_ti
  cases hi : Tryd.prog.info? 32 with
  | none => rw [hi] at h; cases h
  | some i =>
    rw [hi] at h
    simp only [Option.map_some, Option.some.injEq, Prod.mk.injEq] at h
    exact ⟨i, rfl, h⟩
/-- A row of the call's own that holds slices. -/
def VR (B : Nat) (w : World) (v : Value) (vs : List Value) : Prop := w.ownsRow B 32 1 v vs.length vs
/-- What changed: blocks of certain tags alone. -/
structure Chg (own : Nat → Nat) (S : Nat → Bool) (w w' : World) : Prop where
  os : w'.os = w.os
  tape : w'.tape = w.tape
  output : w'.output = w.output
  size : w.heap.size ≤ w'.heap.size
  block : ∀ k, k < w.heap.size → S (own k) = false → w'.heap[k]? = w.heap[k]?
section
variable {w w' w1 w2 : World} {B : Nat} {v x : Value} {vs : List Value} {l : List UInt8} {own own' : Nat → Nat} {S S' : Nat → Bool}
theorem VR.nil_ : VR B w (.slice none 0 0) [] := World.ownsRow_nil w B _ 1
theorem VR.lt (h : VR B w v vs) : ∀ k, v.ownBlock = some k → B ≤ k ∧ k < w.heap.size := World.ownsRow.lt h
theorem VR.at_ (h : VR B w v vs) (he : ∀ g, v.ownBlock = some g → w'.heap[g]? = w.heap[g]?) : VR B w' v vs := by
  obtain ⟨h0, ⟨e1, e2⟩ | ⟨g, cap, cur, e, hB, hg, hr⟩⟩ := h
  · exact ⟨h0, .inl ⟨e1, e2⟩⟩
  · exact ⟨h0, .inr ⟨g, cap, cur, e, hB, (he g (by rw [e]; rfl)).trans hg, hr⟩⟩
/-- The row's form where it holds something. -/
theorem VR.get (h : VR B w v vs) {i : Nat} {u : Value} (hu : vs[i]? = some u) : ∃ g cap, v = .slice (some ⟨g, 0, none⟩) vs.length cap ∧ g < w.heap.size ∧ w.cell? ⟨g, i, none⟩ = some u := by
  have hi : i < vs.length := (List.getElem?_eq_some_iff.1 hu).1
  obtain ⟨h0, ⟨e1, e2⟩ | ⟨g, cap, cur, e, hB, hg, hr⟩⟩ := h
  · omega
  · have hc := World.ownsRow.cells (w := w) (base := B) (e := 32) (size := 1) (v := v) (n := vs.length) (xs := vs) ⟨h0, .inr ⟨g, cap, cur, e, hB, hg, hr⟩⟩ (g := g) (by rw [e]; rfl) i u hu
    rw [add_flat, Nat.zero_add] at hc
    exact ⟨g, cap, e, heap_lt hg, hc⟩
theorem VR.form (h : VR B w v vs) : ∃ p cap, v = .slice p vs.length cap := by
  obtain ⟨h0, ⟨e1, e2⟩ | ⟨g, cap, cur, e, hr⟩⟩ := h
  · exact ⟨none, 0, by rw [e1, e2]⟩
  · exact ⟨_, cap, e⟩
theorem VR.append (h : VR B w v vs) {a : Nat} (hx : w.cell? ⟨a, 0, none⟩ = some x) (h1 : x.oneCell' = true) (hlen : vs.length + 1 ≤ 4294967296) (hB : B ≤ w.heap.size) :
    ∃ v' w', (Builtin.append_ #[63, 63] 63 #[v, .slice (some ⟨a, 0, none⟩) 1 1]).run Tryd.prog w = .ok v' w' ∧ VR B w' v' (vs ++ [x]) ∧ w.grownBy w' v.ownBlock ∧ (v'.ownBlock = v.ownBlock ∨ v'.ownBlock = some w.heap.size) := by
  obtain ⟨i, hi, hz, hs, hb⟩ := ls_info
  have hm : maxLen = 9223372036854775807 := rfl
  obtain ⟨v', w', h1', h2', h3', -, h5'⟩ := run_append_own_at (P := Tryd.prog) w B 63 63 32 i (.slice none 0 0) 1 24 ls_tu hi hz hs hb rfl (by decide) v vs.length vs h ⟨a, 0, none⟩ 1 1 [x] rfl
    (fun j u hj => by
      match j, hj with
      | 0, hj =>
        simp at hj
        subst hj
        rw [add_flat]
        exact hx) (fun u hu => by simp at hu; subst hu; exact h1) (by rw [hm]; omega) (by omega) hB
  exact ⟨v', w', h1', by unfold VR; rw [List.length_append]; exact h2', h3', h5'⟩
theorem Chg.refl (own : Nat → Nat) (S : Nat → Bool) (w : World) : Chg own S w w := ⟨rfl, rfl, rfl, Nat.le_refl _, fun _ _ _ => rfl⟩
theorem Chg.trans (h : Chg own S w w1) (k : Chg own' S w1 w2) (hS : ∀ k, k < w.heap.size → S (own k) = false → S (own' k) = false) : Chg own S w w2 :=
  ⟨k.os.trans h.os, k.tape.trans h.tape, k.output.trans h.output, Nat.le_trans h.size k.size, fun i hi hs => (k.block i (Nat.lt_of_lt_of_le hi h.size) (hS i hi hs)).trans (h.block i hi hs)⟩
theorem Chg.mono (h : Chg own S w w') (hS : ∀ t, S' t = false → S t = false) : Chg own S' w w' := ⟨h.os, h.tape, h.output, h.size, fun k hk hs => h.block k hk (hS _ hs)⟩
theorem Chg.of {y : Option Nat} (h : w.grownBy w' y) (hy : ∀ k, y = some k → k < w.heap.size → S (own k) = true) : Chg own S w w' :=
  ⟨h.os, h.tape, h.output, h.size, fun k hk hs => h.block k hk (fun e => by rw [hy k e.symm hk] at hs; cases hs)⟩
theorem Chg.below (h : Below w.heap.size w w') : Chg own S w w' := Chg.of (y := none) (below_grown h) (fun k e => by cases e)
theorem OB.chg (h : OB B w v l) (hc : Chg own S w w') (hs : ∀ k, v.ownBlock = some k → S (own k) = false) : OB B w' v l := h.at_ fun g e => hc.block g (h.lt g e).2 (hs g e)
theorem VR.chg (h : VR B w v vs) (hc : Chg own S w w') (hs : ∀ k, v.ownBlock = some k → S (own k) = false) : VR B w' v vs := h.at_ fun g e => hc.block g (h.lt g e).2 (hs g e)
theorem RB.chg (h : RB w v l) (hc : Chg own S w w') (hs : ∀ k, v.ownBlock = some k → S (own k) = false) : RB w' v l :=
  h.keep hc.size fun _ g o e hg => World.cell?_of_block (hc.block g hg (hs g e))
theorem blk_chg {k : Nat} {o : Obj} (h : w.heap[k]? = some o) (hc : Chg own S w w') (hs : S (own k) = false) : w'.heap[k]? = some o := (hc.block k (heap_lt h) hs).trans h
theorem Chg.lowB (h : Chg own S w w') (hB : B ≤ w.heap.size) (h0 : ∀ k, k < B → own k = 0) (hS : S 0 = false) {A : Nat} (hA : A ≤ B) : Below A w w' :=
  ⟨h.os, h.tape, h.output, h.size, fun k hk => h.block k (by omega) (by rw [h0 k (by omega)]; exact hS)⟩
end

def fup {α : Type} (g : Nat → α) (j : Nat) (x : α) : Nat → α := fun i => if i = j then x else g i
theorem fup_at {α : Type} (g : Nat → α) (j : Nat) (x : α) : fup g j x j = x := by simp [fup]
theorem fup_ne {α : Type} (g : Nat → α) {i j : Nat} (x : α) (h : i ≠ j) : fup g j x i = g i := by simp [fup, h]
/-- A Book lies there: its four rows, its mark; their blocks bear the tags 1 and 2 .. 5. -/
structure Bk (w : World) (r B : Nat) (own : Nat → Nat) (v : Nat → Value) (V : Nat → List Value) (m : Int) : Prop where
  blk : w.heap[r]? = some (.cells #[v 0, v 1, v 2, v 3, .int .i64 m] 65 (0, 0))
  row : ∀ j, j < 4 → VR B w (v j) (V j)
  tag : own r = 1
  tags : ∀ j, j < 4 → ∀ k, (v j).ownBlock = some k → own k = 2 + j
  rB : B ≤ r
/-- Lists that none writes into any more, and what they hold. -/
def Settled (own : Nat → Nat) (w : World) (K : List Value) (L : List (List UInt8)) : Prop :=
  K.length = L.length ∧ ∀ (i : Nat) (v : Value) (l : List UInt8), K[i]? = some v → L[i]? = some l → RB w v l ∧ ∀ k, v.ownBlock = some k → k < w.heap.size ∧ own k = 9
/-- Lists that are still as they came. -/
def Freshly (own : Nat → Nat) (B : Nat) (w : World) (K : List Value) (L : List (List UInt8)) : Prop :=
  K.length = L.length ∧ ∀ (i : Nat) (v : Value) (l : List UInt8), K[i]? = some v → L[i]? = some l → OB B w v l ∧ l.length ≤ 1099511627776 ∧ ∀ k, v.ownBlock = some k → own k = 6 + i
/-- Two rows whose lists hold the same. -/
def Alike (w : World) (K K' : List Value) : Prop := K.length = K'.length ∧ ∀ (i : Nat) (v v' : Value), K[i]? = some v → K'[i]? = some v' → ∃ l, RB w v l ∧ RB w v' l
section
variable {w w' wA w1 : World} {r B : Nat} {own own' : Nat → Nat} {v : Nat → Value} {V : Nat → List Value} {m : Int} {K K' : List Value} {L : List (List UInt8)} {S : Nat → Bool}
theorem Bk.lt (h : Bk w r B own v V m) : r < w.heap.size := heap_lt h.blk
theorem Bk.cell (h : Bk w r B own v V m) (i : Nat) (u : Value) (hu : [v 0, v 1, v 2, v 3, .int .i64 m][i]? = some u) : w.cell? ⟨r, i, none⟩ = some u := by
  rw [has_cell h.blk, ← hu]; simp
theorem Bk.chg (h : Bk w r B own v V m) (hc : Chg own S w w') (hS : ∀ t, 1 ≤ t → t < 6 → S t = false) : Bk w' r B own v V m :=
  ⟨blk_chg h.blk hc (by rw [h.tag]; exact hS 1 (by decide) (by decide)), fun j hj => (h.row j hj).chg hc (fun k e => by rw [h.tags j hj k e]; exact hS _ (by omega) (by omega)), h.tag, h.tags, h.rB⟩
theorem Bk.retag (h : Bk w r B own v V m) (he : ∀ k, k < w.heap.size → own' k = own k) : Bk w r B own' v V m :=
  ⟨h.blk, h.row, (he r h.lt).trans h.tag, fun j hj k e => (he k ((h.row j hj).lt k e).2).trans (h.tags j hj k e), h.rB⟩
/-- The same where the changed tags are not the Book's. -/
theorem Bk.retag' (h : Bk w r B own v V m) (he : ∀ k, k < w.heap.size → own k < 6 → own' k = own k) : Bk w r B own' v V m :=
  ⟨h.blk, h.row, (he r h.lt (by rw [h.tag]; decide)).trans h.tag, fun j hj k e => (he k ((h.row j hj).lt k e).2 (by rw [h.tags j hj k e]; omega)).trans (h.tags j hj k e), h.rB⟩
theorem Settled.chg (h : Settled own w K L) (hc : Chg own S w w') (hS : S 9 = false) : Settled own w' K L :=
  ⟨h.1, fun i v l hv hl => ⟨(h.2 i v l hv hl).1.chg hc (fun k e => by rw [((h.2 i v l hv hl).2 k e).2]; exact hS), fun k e => ⟨Nat.lt_of_lt_of_le ((h.2 i v l hv hl).2 k e).1 hc.size, ((h.2 i v l hv hl).2 k e).2⟩⟩⟩
theorem Settled.retag (h : Settled own w K L) (he : ∀ k, k < w.heap.size → own k = 9 → own' k = 9) : Settled own' w K L :=
  ⟨h.1, fun i v l hv hl => ⟨(h.2 i v l hv hl).1, fun k e => ⟨((h.2 i v l hv hl).2 k e).1, he k ((h.2 i v l hv hl).2 k e).1 ((h.2 i v l hv hl).2 k e).2⟩⟩⟩
theorem Settled.nil_ : Settled own w [] [] := ⟨rfl, fun i v l h => by simp at h⟩
theorem Settled.push (h : Settled own w K L) {x : Value} {l : List UInt8} (hx : RB w x l) (ht : ∀ k, x.ownBlock = some k → k < w.heap.size ∧ own k = 9) : Settled own w (K ++ [x]) (L ++ [l]) := by
  refine ⟨by simp [h.1], fun i v l' hv hl => ?_⟩
  by_cases hi : i < K.length
  · rw [List.getElem?_append_left hi] at hv
    rw [List.getElem?_append_left (by rw [← h.1]; exact hi)] at hl
    exact h.2 i v l' hv hl
  · rw [List.getElem?_append_right (by omega)] at hv
    rw [List.getElem?_append_right (by rw [← h.1]; omega), ← h.1] at hl
    obtain ⟨n, hn⟩ : ∃ n, n = i - K.length := ⟨_, rfl⟩
    rw [← hn] at hv hl
    cases n with
    | zero =>
      simp only [List.getElem?_cons_zero, Option.some.injEq] at hv hl
      subst hv hl
      exact ⟨hx, ht⟩
    | succ n => simp at hv
theorem Freshly.chg (h : Freshly own B w K L) (hc : Chg own S w w') (hS : ∀ t, 6 ≤ t → t < 9 → S t = false) (h2 : L.length ≤ 2) : Freshly own B w' K L :=
  ⟨h.1, fun i v l hv hl => ⟨(h.2 i v l hv hl).1.chg hc (fun k e => by rw [(h.2 i v l hv hl).2.2 k e]; exact hS _ (by omega) (by have := (List.getElem?_eq_some_iff.1 hl).1; omega)), (h.2 i v l hv hl).2⟩⟩
theorem Freshly.retag (h : Freshly own B w K L) (he : ∀ k, k < w.heap.size → 6 ≤ own k → own k < 9 → own' k = own k) (h2 : L.length ≤ 2) : Freshly own' B w K L :=
  ⟨h.1, fun i v l hv hl => ⟨(h.2 i v l hv hl).1, (h.2 i v l hv hl).2.1, fun k e => by
    have ht := (h.2 i v l hv hl).2.2 k e
    have := (List.getElem?_eq_some_iff.1 hl).1
    exact (he k ((h.2 i v l hv hl).1.lt k e).2 (by omega) (by omega)).trans ht⟩⟩
theorem Alike.of_settled (h : Settled own w K L) (h' : Settled own' w K' L) : Alike w K K' :=
  ⟨h.1.trans h'.1.symm, fun i v v' hv hv' => by
    have hi : i < L.length := by rw [← h.1]; exact (List.getElem?_eq_some_iff.1 hv).1
    exact ⟨L[i], (h.2 i v _ hv (List.getElem?_eq_getElem hi)).1, (h'.2 i v' _ hv' (List.getElem?_eq_getElem hi)).1⟩⟩
theorem Alike.of_fresh (h : Freshly own B w K L) (h' : Settled own' w K' L) : Alike w K K' :=
  ⟨h.1.trans h'.1.symm, fun i v v' hv hv' => by
    have hi : i < L.length := by rw [← h.1]; exact (List.getElem?_eq_some_iff.1 hv).1
    exact ⟨L[i], (h.2 i v _ hv (List.getElem?_eq_getElem hi)).1.rb, (h'.2 i v' _ hv' (List.getElem?_eq_getElem hi)).1⟩⟩
theorem Alike.below (h : Alike w K K') (hb : Below w.heap.size w w') : Alike w' K K' := ⟨h.1, fun i v v' hv hv' => by obtain ⟨l, a, b⟩ := h.2 i v v' hv hv'; exact ⟨l, a.below hb, b.below hb⟩⟩
/-- The tags behind an append to row j; other new blocks bear the tag d. -/
def ownP (own : Nat → Nat) (n : Nat) (u : Value) (j d : Nat) : Nat → Nat := fun k => if k < n then own k else if u.ownBlock = some k then 2 + j else d
theorem ownP_old {n : Nat} {u : Value} {j d k : Nat} (h : k < n) : ownP own n u j d k = own k := by simp [ownP, h]
theorem ownP_new {n : Nat} {u : Value} {j d k : Nat} (h : n ≤ k) (hu : u.ownBlock = some k) : ownP own n u j d k = 2 + j := by simp [ownP, Nat.not_lt.2 h, hu]
theorem ownP_oth {n : Nat} {u : Value} {j d k : Nat} (h : n ≤ k) (hu : u.ownBlock ≠ some k) : ownP own n u j d k = d := by simp [ownP, Nat.not_lt.2 h, hu]
/-- Row j has one list more: what must have come about. -/
theorem Bk.pushed (h : Bk w r B own v V m) {j : Nat} (hj : j < 4) {u x : Value} (d : Nat) (hc : Chg own (fun t => t == 1 || t == 2 + j) w w') (hblk : w'.heap[r]? = some (.cells (setAll [v 0, v 1, v 2, v 3, .int .i64 m] j [u]).toArray 65 (0, 0))) (hu : VR B w' u (V j ++ [x])) (hat : u.ownBlock = (v j).ownBlock ∨ ∀ k, u.ownBlock = some k → w.heap.size ≤ k) :
    Bk w' r B (ownP own w.heap.size u j d) (fup v j u) (fup V j (V j ++ [x])) m := by
  refine ⟨?_, fun i hi => ?_, ?_, fun i hi k e => ?_, h.rB⟩
  · rw [hblk]
    rcases (show j = 0 ∨ j = 1 ∨ j = 2 ∨ j = 3 by omega) with rfl | rfl | rfl | rfl <;> rfl
  · by_cases e : i = j
    · subst e
      rw [fup_at, fup_at]
      exact hu
    · rw [fup_ne _ _ e, fup_ne _ _ e]
      exact (h.row i hi).chg hc fun k ek => by
        rw [h.tags i hi k ek]
        simp only [Bool.or_eq_false_iff, beq_eq_false_iff_ne]
        omega
  · rw [ownP_old h.lt]; exact h.tag
  · by_cases e2 : i = j
    · subst e2
      rw [fup_at] at e
      by_cases hk : k < w.heap.size
      · rw [ownP_old hk]
        rcases hat with a | a
        · exact h.tags i hi k (a ▸ e)
        · have := a k e; omega
      · exact ownP_new (by omega) e
    · rw [fup_ne _ _ e2] at e
      rw [ownP_old ((h.row i hi).lt k e).2]
      exact h.tags i hi k e
/-- Row j has one list more. -/
theorem Bk.push (h : Bk w r B own v V m) {j : Nat} (hj : j < 4) {u x : Value} (d : Nat) (hb : Below w.heap.size w wA) (hg : wA.grownBy w1 (v j).ownBlock) (hu : VR B w1 u (V j ++ [x])) (hat : u.ownBlock = (v j).ownBlock ∨ u.ownBlock = some wA.heap.size) :
    Bk (w1.setCells r j [u]) r B (ownP own w.heap.size u j d) (fup v j u) (fup V j (V j ++ [x])) m ∧ Chg own (fun t => t == 1 || t == 2 + j) w (w1.setCells r j [u]) := by
  have hgs := setCells_grown w1 r j [u]
  have hrlt := h.lt
  have hne : ∀ i, i < 4 → ∀ k, (v i).ownBlock = some k → k ≠ r := fun i hi k e e' => by have := h.tags i hi k e; rw [e', h.tag] at this; omega
  have hur : ∀ k, u.ownBlock = some k → k ≠ r := fun k e e' => by
    rcases hat with a | a
    · exact hne j hj k (a ▸ e) e'
    · rw [a] at e; injection e with e; have := hb.size; omega
  have hk1 : ∀ k, k < w.heap.size → (v j).ownBlock ≠ some k → w1.heap[k]? = w.heap[k]? := fun k hk e => (hg.block k (Nat.lt_of_lt_of_le hk hb.size) (fun e' => e e'.symm)).trans (hb.block k hk)
  have hc : Chg own (fun t => t == 1 || t == 2 + j) w (w1.setCells r j [u]) := by
    refine ⟨hgs.os.trans (hg.os.trans hb.os), hgs.tape.trans (hg.tape.trans hb.tape), hgs.output.trans (hg.output.trans hb.output), Nat.le_trans hb.size (Nat.le_trans hg.size hgs.size), fun k hk hs => ?_⟩
    simp only [Bool.or_eq_false_iff, beq_eq_false_iff_ne] at hs
    exact (hgs.block k (by have := hg.size; have := hb.size; omega) (fun e => by injection e with e; subst e; exact hs.1 h.tag)).trans (hk1 k hk (fun e => hs.2 (h.tags j hj k e)))
  refine ⟨h.pushed hj d hc ?_ (hu.at_ fun k ek => hgs.block k (hu.lt k ek).2 (fun e => hur k ek (by injection e))) (hat.imp id (fun a k e => by rw [a] at e; injection e with e; have := hb.size; omega)), hc⟩
  have hb1 : w1.heap[r]? = some (.cells [v 0, v 1, v 2, v 3, .int .i64 m].toArray 65 (0, 0)) := (hk1 r hrlt (fun e => hne j hj r e rfl)).trans h.blk
  exact setCells_heap [u] j w1 _ hb1
/-- The mark is written. -/
theorem Bk.mark (h : Bk w r B own v V m) (z : Int) : Bk (w.setCells r 4 [.int .i64 z]) r B own v V z ∧ Chg own (fun t => t == 1) w (w.setCells r 4 [.int .i64 z]) := by
  have hgs := setCells_grown w r 4 [.int .i64 z]
  have hne : ∀ i, i < 4 → ∀ k, (v i).ownBlock = some k → k ≠ r := fun i hi k e e' => by have := h.tags i hi k e; rw [e', h.tag] at this; omega
  refine ⟨⟨setCells_heap [.int .i64 z] 4 w [v 0, v 1, v 2, v 3, .int .i64 m] h.blk, fun i hi => (h.row i hi).at_ fun k ek => hgs.block k ((h.row i hi).lt k ek).2 (fun e => hne i hi k ek (by injection e)), h.tag, h.tags, h.rB⟩, Chg.of hgs fun k e _ => by injection e with e; subst e; rw [h.tag]; rfl⟩
/-- Row j is emptied. -/
theorem Bk.clear (h : Bk w r B own v V m) {j : Nat} (hj : j < 4) : Bk (w.setCells r j [.slice none 0 0]) r B own (fup v j (.slice none 0 0)) (fup V j []) m ∧ Chg own (fun t => t == 1) w (w.setCells r j [.slice none 0 0]) := by
  have hgs := setCells_grown w r j [.slice none 0 0]
  have hne : ∀ i, i < 4 → ∀ k, (v i).ownBlock = some k → k ≠ r := fun i hi k e e' => by have := h.tags i hi k e; rw [e', h.tag] at this; omega
  refine ⟨⟨?_, fun i hi => ?_, h.tag, fun i hi k e => ?_, h.rB⟩, Chg.of hgs fun k e _ => by injection e with e; subst e; rw [h.tag]; rfl⟩
  · have := setCells_heap [.slice none 0 0] j w [v 0, v 1, v 2, v 3, .int .i64 m] h.blk
    rw [this]
    rcases (show j = 0 ∨ j = 1 ∨ j = 2 ∨ j = 3 by omega) with rfl | rfl | rfl | rfl <;> rfl
  · by_cases e : i = j
    · subst e
      rw [fup_at, fup_at]
      exact VR.nil_
    · rw [fup_ne _ _ e, fup_ne _ _ e]
      exact (h.row i hi).at_ fun k ek => hgs.block k ((h.row i hi).lt k ek).2 (fun e => hne i hi k ek (by injection e))
  · by_cases e2 : i = j
    · subst e2
      rw [fup_at] at e
      cases e
    · rw [fup_ne _ _ e2] at e
      exact h.tags i hi k e
end
theorem build_one {ρ : Operand → Value} {o : Oper} {x : Operand} {p : Option Addr} {n c : Nat} (ho : o.op = .buildSlice 63 1 #[(0, x)]) (hx : ρ x = .slice p n c) (w : World) : (execOp ρ o).run Tryd.prog w = .ok (.value (.slice (some ⟨w.heap.size, 0, none⟩) 1 1)) (w.alloc (.cells #[.slice p n c] 32)) := by
  have h1 : (Instr.buildSlice 63 1 #[(0, .slice p n c)]).run Tryd.prog w = .ok (.slice (some ⟨w.heap.size, 0, none⟩) 1 1) (w.alloc (.cells #[.slice p n c] 32)) := by kernel_rfl
  unfold execOp
  rw [ho]
  simp [hx, h1]
theorem ld_ls {w : World} {g o : Nat} {a : Option Addr} {n m : Nat} (h : w.cell? ⟨g, o, none⟩ = some (.slice a n m)) : (Instr.loadAt 63 (.pointer (some ⟨g, o, none⟩))).run Tryd.prog w = .ok (.slice a n m) w := by
  go_simp
theorem len_ls (w : World) (a : Option Addr) (m k : Nat) : (Builtin.len_ #[63] 3 #[.slice a m k]).run Tryd.prog w = .ok (.int .i64 m) w := by
  simp [Builtin.len_, run_underlying ls_tu, goInt, Builtin.lenOf]
/-- append of one byte to a row of the call's own: what the old row held it holds. -/
theorem run_append_byte {w : World} {B : Nat} {v x : Value} {l : List UInt8} {b : UInt8} (h : OB B w v l) (hr : RB w x [b]) (hlen : l.length + 1 ≤ 140737488355328) (hB : B ≤ w.heap.size) :
    ∃ v' w', (Builtin.append_ #[32, 32] 32 #[v, x]).run Tryd.prog w = .ok v' w' ∧ OB B w' v' (l ++ [b]) ∧ w.grownBy w' v.ownBlock ∧ (v'.ownBlock = v.ownBlock ∨ v'.ownBlock = some w.heap.size) ∧
      ∀ g i, v.ownBlock = some g → i < l.length → w'.cell? ⟨g, i, none⟩ = w.cell? ⟨g, i, none⟩ := by
  obtain ⟨v', w', hrun, h1, h2, h3⟩ := run_append_OB h hr hlen hB
  refine ⟨v', w', hrun, h1, h2, h3, fun g i hg hi => ?_⟩
  obtain ⟨inf, hi', hz⟩ := by_info
  obtain ⟨p, c, rfl, k1, k2, k3, hc⟩ := hr
  obtain ⟨ga, oa, rfl, hga, hca⟩ := hc 0 b rfl
  have hnews : ∀ j u, [bv b][j]? = some u → w.cell? ((⟨ga, oa, none⟩ : Addr).add j) = some u := fun j u hj => by
    match j, hj with
    | 0, hj =>
      simp at hj
      subst hj
      rw [add_flat]
      exact hca
  obtain ⟨⟨h0, ⟨e1, e2⟩ | ⟨g', cap, cur, e, hBg, hgg, hn, hcm, hcs, htk⟩⟩, hl⟩ := h
  · rw [e1] at hg; cases hg
  · subst e
    have hgeq : g' = g := by have : some g' = some g := hg; injection this
    subst hgeq
    rw [Nat.mul_one] at hcs
    by_cases hroom : l.length + 1 ≤ cap
    · have hrm := run_append_room (P := Tryd.prog) w 32 32 5 inf by_tu hi' g' l.length cap cur hgg ⟨ga, oa, none⟩ 1 c [bv b] (by rw [hz.2.1]; rfl) hnews (fun u hu => by simp at hu; subst hu; rfl) hroom (by rw [hz.2.1, Nat.mul_one, hcs]; exact hroom)
      have hrun' := hrun
      rw [show [b].length = 1 from rfl, hrm] at hrun'
      injection hrun' with _ hw
      rw [← hw, has_cell (setRow_heap w g' cur _ _ _ hgg), has_cell hgg]
      rw [hz.2.1, Nat.mul_one]
      have hcl : cur.toList.length = cap := by simpa using hcs
      rw [List.getElem?_toArray, List.append_assoc, List.getElem?_append_left (by rw [List.length_take]; omega), List.getElem?_take, if_pos hi]
      simp
    · have hgw := run_append_grow (P := Tryd.prog) w 32 32 5 inf (.int .u8 0) by_tu hi' hz.1 ⟨g', 0, none⟩ l.length cap (l.map bv) (by rw [hz.2.1]; simp) (fun j u hj => by
          have := World.ownsRow.cells (w := w) (base := B) (e := 5) (size := 1) (n := l.length) (xs := l.map bv) ⟨h0, .inr ⟨g', cap, cur, rfl, hBg, hgg, hn, hcm, by rw [Nat.mul_one]; exact hcs, htk⟩⟩ (g := g') rfl j u hj
          exact this) ⟨ga, oa, none⟩ 1 c [bv b] (by rw [hz.2.1]; rfl) hnews (by omega) (by omega) (growslice_fits (by omega) (by rw [hz.2.2]; omega))
      have hrun' := hrun
      rw [show [b].length = 1 from rfl, hgw] at hrun'
      injection hrun' with _ hw
      rw [← hw]
      exact World.cell?_of_block (heap_alloc_old w.drew _ (heap_lt hgg))
theorem byte_of (z : Int) : ∃ b : UInt8, IntKind.u8.wrap z = (b.toNat : Int) := by
  refine ⟨UInt8.ofNat (z % 256).toNat, ?_⟩
  rw [UInt8.toNat_ofNat']
  simp only [IntKind.wrap, IntKind.bits, IntKind.signed]
  simp
  omega
section
variable {w w' wA w1 : World} {r B : Nat} {own : Nat → Nat} {v : Nat → Value} {V : Nat → List Value} {m : Int}
theorem bk_cell {cs : List Value} (h : w.heap[r]? = some (.cells cs.toArray 65 (0, 0))) (i : Nat) (u : Value) (hu : cs[i]? = some u) : w.cell? ⟨r, i, none⟩ = some u := by
  rw [has_cell h, ← hu]; simp
theorem bk_four (v : Nat → Value) (m : Int) {j : Nat} (hj : j < 4) : [v 0, v 1, v 2, v 3, .int .i64 m][j]? = some (v j) := by
  rcases (show j = 0 ∨ j = 1 ∨ j = 2 ∨ j = 3 by omega) with rfl | rfl | rfl | rfl <;> rfl
theorem Bk.ld' (h : Bk w r B own v V m) {j : Nat} (hj : j < 4) (hb : w'.heap[r]? = some (.cells [v 0, v 1, v 2, v 3, .int .i64 m].toArray 65 (0, 0))) : (Instr.loadAt 63 (.pointer (some ⟨r, j, none⟩))).run Tryd.prog w' = .ok (v j) w' := by
  obtain ⟨p, c, e⟩ := (h.row j hj).form
  have := bk_cell hb j _ (bk_four v m hj)
  rw [e] at this ⊢
  exact ld_ls this
theorem Bk.ld (h : Bk w r B own v V m) {j : Nat} (hj : j < 4) : (Instr.loadAt 63 (.pointer (some ⟨r, j, none⟩))).run Tryd.prog w = .ok (v j) w := h.ld' hj h.blk
theorem Bk.one (h : Bk w r B own v V m) {j : Nat} (hj : j < 4) : (v j).oneCell' = true := by
  obtain ⟨p, c, e⟩ := (h.row j hj).form
  rw [e]; rfl
theorem Bk.ne (h : Bk w r B own v V m) {j : Nat} (hj : j < 4) {k : Nat} (e : (v j).ownBlock = some k) : k ≠ r := fun e' => by have := h.tags j hj k e; rw [e', h.tag] at this; omega
theorem Bk.kept (h : Bk w r B own v V m) {j : Nat} (hj : j < 4) (hb : Below w.heap.size w wA) (hg : wA.grownBy w1 (v j).ownBlock) : w1.heap[r]? = some (.cells [v 0, v 1, v 2, v 3, .int .i64 m].toArray 65 (0, 0)) :=
  (hg.block r (Nat.lt_of_lt_of_le h.lt hb.size) (fun e => h.ne hj e.symm rfl)).trans ((hb.block r h.lt).trans h.blk)
theorem VR.one {u : Value} {vs : List Value} (h : VR B w u vs) : u.oneCell' = true := by
  obtain ⟨p, c, e⟩ := h.form
  rw [e]; rfl
theorem VR.cells1 {u : Value} {vs : List Value} (h : VR B w u vs) : u.cells = [u].toArray := by
  obtain ⟨p, c, e⟩ := h.form
  rw [e]; rfl
theorem VR.grown {u : Value} {vs : List Value} {y : Option Nat} (h : VR B w u vs) (hg : w.grownBy w' y) (hne : ∀ k, u.ownBlock = some k → y ≠ some k) : VR B w' u vs := h.at_ fun k e => hg.block k (h.lt k e).2 (fun e' => hne k e e'.symm)
theorem lsz : (Tryd.prog.info? 63).map (·.size) = some 1 := by kernel_rfl
theorem build_one' {ρ : Operand → Value} {o : Oper} {x : Operand} {u : Value} (ho : o.op = .buildSlice 63 1 #[(0, x)]) (hx : ρ x = u) (hu : ∃ p n c, u = .slice p n c) (w : World) : (execOp ρ o).run Tryd.prog w = .ok (.value (.slice (some ⟨w.heap.size, 0, none⟩) 1 1)) (w.alloc (.cells #[u] 32)) := by
  obtain ⟨p, n, c, rfl⟩ := hu
  exact build_one ho hx w
end
theorem cell_one (w : World) (x : Value) (t : TypeId) : (w.alloc (.cells #[x] t)).cell? ⟨w.heap.size, 0, none⟩ = some x := (has_cell (heap_new w (.cells #[x] t) w.heap.size rfl) 0).trans rfl
/-- A list that reads as l; its block bears the tag p. -/
def Lp (own : Nat → Nat) (w : World) (x : Value) (l : List UInt8) (p : Nat) : Prop := RB w x l ∧ ∀ k, x.ownBlock = some k → k < w.heap.size ∧ own k = p
section
variable {w w' : World} {own own' : Nat → Nat} {S : Nat → Bool} {x : Value} {l : List UInt8} {p B : Nat} {K : List Value} {L : List (List UInt8)}
theorem Lp.step (h : Lp own w x l p) (hc : Chg own S w w') (hS : S p = false) (he : ∀ k, k < w.heap.size → own' k = own k) : Lp own' w' x l p :=
  ⟨h.1.chg hc (fun k e => by rw [(h.2 k e).2]; exact hS), fun k e => ⟨Nat.lt_of_lt_of_le (h.2 k e).1 hc.size, (he k (h.2 k e).1).trans (h.2 k e).2⟩⟩
theorem Settled.step (h : Settled own w K L) (hc : Chg own S w w') (hS : S 9 = false) (he : ∀ k, k < w.heap.size → own' k = own k) : Settled own' w' K L :=
  ⟨h.1, fun i v l hv hl => Lp.step (h.2 i v l hv hl) hc hS he⟩
theorem Freshly.step (h : Freshly own B w K L) (hc : Chg own S w w') (hS : ∀ t, 6 ≤ t → t < 9 → S t = false) (h2 : L.length ≤ 2) (he : ∀ k, k < w.heap.size → 6 ≤ own k → own k < 9 → own' k = own k) : Freshly own' B w' K L :=
  ⟨h.1, fun i v l hv hl => by
    obtain ⟨h1, h3, h4⟩ := h.2 i v l hv hl
    have hi := (List.getElem?_eq_some_iff.1 hl).1
    exact ⟨h1.chg hc (fun k e => by rw [h4 k e]; exact hS _ (by omega) (by omega)), h3, fun k e => (he k (h1.lt k e).2 (by rw [h4 k e]; omega) (by rw [h4 k e]; omega)).trans (h4 k e)⟩⟩
theorem Freshly.nil_ : Freshly own B w [] [] := ⟨rfl, fun i v l h => by simp at h⟩
theorem Freshly.push (h : Freshly own B w K L) {x : Value} (hx : OB B w x l) (hl : l.length ≤ 1099511627776) (ht : ∀ k, x.ownBlock = some k → own k = 6 + K.length) : Freshly own B w (K ++ [x]) (L ++ [l]) := by
  refine ⟨by simp [h.1], fun i v l' hv hl' => ?_⟩
  by_cases hi : i < K.length
  · rw [List.getElem?_append_left hi] at hv
    rw [List.getElem?_append_left (by rw [← h.1]; exact hi)] at hl'
    exact h.2 i v l' hv hl'
  · rw [List.getElem?_append_right (by omega)] at hv
    rw [List.getElem?_append_right (by rw [← h.1]; omega), ← h.1] at hl'
    obtain ⟨n, hn⟩ : ∃ n, n = i - K.length := ⟨_, rfl⟩
    rw [← hn] at hv hl'
    cases n with
    | zero =>
      simp only [List.getElem?_cons_zero, Option.some.injEq] at hv hl'
      subst hv hl'
      rw [show i = K.length by omega]
      exact ⟨hx, hl, ht⟩
    | succ n => simp at hv
theorem Lp.of_ob (h : OB B w x l) (ht : ∀ k, x.ownBlock = some k → own k = p) : Lp own w x l p := ⟨h.rb, fun k e => ⟨(h.lt k e).2, ht k e⟩⟩
theorem Chg.owner (h : Chg own S w w') (he : ∀ k, k < w.heap.size → own' k = own k) : Chg own' S w w' := ⟨h.os, h.tape, h.output, h.size, fun k hk hs => h.block k hk (by rw [← he k hk]; exact hs)⟩
theorem RB.kept0 {q : Option Addr} {n cap : Nat} (h : RB w (.slice q n cap) l) (h0 : ∀ g o, q = some ⟨g, o, none⟩ → l ≠ [] → o = 0) (hs : w.heap.size ≤ w'.heap.size) (hk : ∀ g i, q = some ⟨g, 0, none⟩ → i < l.length → w'.cell? ⟨g, i, none⟩ = w.cell? ⟨g, i, none⟩) : RB w' (.slice q n cap) l := by
  obtain ⟨p, c, e, h1, h2, h3, hr⟩ := h
  simp only [Value.slice.injEq] at e
  obtain ⟨rfl, rfl, rfl⟩ := e
  refine ⟨q, cap, rfl, h1, h2, h3, fun i b hb => ?_⟩
  obtain ⟨g, o, e, hg, hc⟩ := hr i b hb
  have ho := h0 g o e (by intro e'; rw [e'] at hb; simp at hb)
  subst ho
  refine ⟨g, 0, e, Nat.lt_of_lt_of_le hg hs, ?_⟩
  rw [Nat.zero_add] at hc ⊢
  exact (hk g i e (List.getElem?_eq_some_iff.1 hb).1).trans hc
end
set_option maxRecDepth 100000 in
theorem wpList_append_byte {w : World} {ops : Array Oper} {rest : List Oper} {o : Oper} {a : Act} {Q : Exit → Act → World → Prop} (hgd : o.guard = none) (s x : Operand)
    (ho : o.op = .call { callee := .builtin .append, args := #[s, x], argTypes := #[32, 32] }) (hty : o.type = 32) {B : Nat} {v xv : Value} {l : List UInt8} {b : UInt8}
    (hs : a.eval s = v) (hx : a.eval x = xv) (h : OB B w v l) (hr : RB w xv [b]) (hlen : l.length + 1 ≤ 140737488355328) (hB : B ≤ w.heap.size)
    (hk : ∀ v' w', OB B w' v' (l ++ [b]) → w.grownBy w' v.ownBlock → (v'.ownBlock = v.ownBlock ∨ v'.ownBlock = some w.heap.size) → (∀ g i, v.ownBlock = some g → i < l.length → w'.cell? ⟨g, i, none⟩ = w.cell? ⟨g, i, none⟩) → wpList Tryd.prog ops Q rest (a.put o.dst v') w') : wpList Tryd.prog ops Q (o :: rest) a w := by
  refine wpList_plain hgd fun K hK => ?_
  obtain ⟨v', w', hrun, h2, h3, h4, h5⟩ := run_append_byte h hr hlen hB
  unfold Oper.wp execOp
  simp only [ho, hty, resolve, invoke, builtin, Sem.run_bind, Sem.run_pure, Result.andThen_ok, List.map_toArray, List.map_cons, List.map_nil, hs, hx, hrun]
  exact hK _ _ (hk v' w' h2 h3 h4 h5)
theorem copied_enter' : Og.Enters Tryd.prog 30 := fun args w => by kernel_rfl
theorem bholds_enter : Og.Enters Tryd.prog 37 := fun args w => by kernel_rfl
theorem bwrite_enter : Og.Enters Tryd.prog 56 := fun args w => by kernel_rfl
theorem bkeep_enter : Og.Enters Tryd.prog 36 := fun args w => by kernel_rfl
end Go.Proofs.YtbgfoobcpacfeaaDoor
