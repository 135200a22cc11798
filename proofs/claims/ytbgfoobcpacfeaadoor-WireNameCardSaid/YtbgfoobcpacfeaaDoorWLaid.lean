/- Laid variables that are arrays of literals: their cells. -/
import Derived.Test.YtbgfoobcpacfeaaDoorKt
import Derived.Test.YtbgfoobcpacfeaaDoorCards
import Derived.Test.YtbgfoobcpacfeaaDoorTie
import Derived.LaidMore
import Derived.SevenTiedAt
namespace Go.Proofs.YtbgfoobcpacfeaaDoor
open Go.RowKit
set_option maxRecDepth 100000
set_option linter.unusedVariables false
set_option linter.unusedSimpArgs false

section
variable {H : Type} {enc : TypeId × Value → H} {P : Program} {w : World} {base : Nat} {sp : Nat → Bool} {held : Bool} {fuel : Nat}
theorem lit_cell {e : TypeId} {c : Value} {x : DataW H × List MemPlace} {l : Lit} (he : (∃ k, P.underlying e = some (.int k)) ∨ P.underlying e = some .string)
    (h : DataW.trod enc P w base sp held fuel e [c] = some x) (hx : x.1 = .lit l) : c = l.value := by
  rcases he with ⟨k, he⟩ | he
  · obtain ⟨n, hc, hxx, _⟩ := DataW.trod_int he h
    simp only [List.cons.injEq, and_true] at hc
    subst hc
    rw [hxx] at hx
    cases hx
    rfl
  · obtain ⟨s, hc, hxx, _⟩ := DataW.trod_string he h
    simp only [List.cons.injEq, and_true] at hc
    subst hc
    rw [hxx] at hx
    cases hx
    rfl
theorem lits_cells {t e : TypeId} {n : Nat} {cs : List Value} {x : DataW H × List MemPlace} (hu : P.underlying t = some (.array n e)) (hc : P.cellsOf e = 1) (hct : P.cellsOf t = n)
    (he : (∃ k, P.underlying e = some (.int k)) ∨ P.underlying e = some .string) (h : DataW.trod enc P w base sp held fuel t cs = some x) (ls : List Lit) (hx : x.1 = .agg (ls.map .lit)) :
    cs = ls.map Lit.value := by
  obtain ⟨xs, m, rfl, rfl, hl, hn, hel⟩ := DataW.trod_array hu h
  have hxs : xs.map (·.1) = ls.map .lit := by simpa using hx
  have hlen : ls.length = n := by have := congrArg List.length hxs; simp at this; omega
  apply List.ext_getElem?
  intro i
  by_cases hi : i < n
  · have h1 := hel i hi
    rw [hc, Nat.mul_one] at h1
    have hci : i < cs.length := by omega
    have e1 : (cs.drop i).take 1 = [cs[i]] := by rw [List.drop_eq_getElem_cons hci]; rfl
    rw [e1, List.getElem?_eq_getElem (by omega)] at h1
    have h2 : xs[i].1 = .lit ls[i] := by
      have := congrArg (fun l => l[i]?) hxs
      simpa [List.getElem?_map, List.getElem?_eq_getElem (show i < xs.length by omega), List.getElem?_eq_getElem (show i < ls.length by omega)] using this
    rw [List.getElem?_eq_getElem hci, List.getElem?_map, List.getElem?_eq_getElem (show i < ls.length by omega), lit_cell he h1 h2]
    rfl
  · rw [List.getElem?_eq_none (by omega), List.getElem?_eq_none (by simp; omega)]
/-- A laid variable's cells. -/
theorem laid_var {n : String} {d : DataW Unit} {r : List (String × DataW Unit)} {ps : List MemPlace} (h : DataW.LaidVars P w ((n, d) :: r) ps) {g : Nat} {t e : TypeId} {m : Nat} (ls : List Lit) (hg : P.globalNamed n = some g)
    (ht : (P.globals[g]?).map (·.type) = some t) (hu : P.underlying t = some (.array m e)) (hc : P.cellsOf e = 1) (hct : P.cellsOf t = m) (he : (∃ k, P.underlying e = some (.int k)) ∨ P.underlying e = some .string) (hd : d = .agg (ls.map .lit)) :
    (∀ i l, ls[i]? = some l → w.cell? ⟨g, i, none⟩ = some l.value) ∧ ∃ ps', DataW.LaidVars P w r ps' := by
  obtain ⟨g', t', cs, fuel, p, q, hg', ht', hv, htr, hr, _⟩ := h
  obtain rfl : g = g' := Option.some.inj (hg.symm.trans hg')
  obtain rfl : t = t' := Option.some.inj (ht.symm.trans ht')
  have hcs := lits_cells hu hc hct he htr ls hd
  refine ⟨fun i l hl => ?_, _, hr⟩
  rw [World.var?_cell hg hv i, ← Array.getElem?_toList, hcs, List.getElem?_map, hl]
  rfl
theorem laid_of {laid : List (String × DataW Unit)} (hp : (laid.all fun x => x.2.handleName?.isNone) = true) (h : laidMetH P laid w) : ∃ ps, DataW.LaidVars P w laid ps := by
  rw [MakeChecks.laidMetH_plain _ _ _ hp] at h
  obtain ⟨ps, h, _⟩ := h
  exact ⟨ps, h⟩
end
/-- A row of cells that lies in the world, and what is behind. -/
def Lies (g : Nat) (vs : List Value) (w : World) : Prop := g < w.heap.size ∧ ∀ i v, vs[i]? = some v → w.cell? ⟨g, i, none⟩ = some v
theorem Lies.below {g : Nat} {vs : List Value} {w w' : World} (h : Lies g vs w) (hb : Below w.heap.size w w') : Lies g vs w' :=
  ⟨Nat.lt_of_lt_of_le h.1 hb.size, fun i v hv => ((bcell hb).1 g i h.1).trans (h.2 i v hv)⟩
theorem Lies.belowB {g B : Nat} {vs : List Value} {w w' : World} (h : Lies g vs w) (hg : g < B) (hb : Below B w w') : Lies g vs w' :=
  ⟨Nat.lt_of_lt_of_le h.1 hb.size, fun i v hv => ((bcellB hb).1 g i hg).trans (h.2 i v hv)⟩
/-- The world holds the sizes of blocks. -/
def Szs (w : World) : Prop := Lies 3 [.int .u32 128, .int .u32 256, .int .u32 512, .int .u32 1024] w
theorem lies_of {g : Nat} {ls : List Lit} {w : World} (h0 : 0 < ls.length) (h : ∀ i l, ls[i]? = some l → w.cell? ⟨g, i, none⟩ = some l.value) : Lies g (ls.map Lit.value) w := by
  refine ⟨cell_lt (h 0 _ (List.getElem?_eq_getElem h0)), fun i v hv => ?_⟩
  rw [List.getElem?_map] at hv
  cases e : ls[i]? with
  | none => rw [e] at hv; cases hv
  | some l => rw [e] at hv; cases hv; exact h i l e
theorem laid_szs {r : List (String × DataW Unit)} {ps : List MemPlace} {w : World} (h : DataW.LaidVars Tryd.prog w (("replica/wire.blockSizes", Rows.laid_replica_wire_blockSizes) :: r) ps) : Szs w ∧ ∃ ps', DataW.LaidVars Tryd.prog w r ps' := by
  have := laid_var h (g := 3) [.int .u32 128, .int .u32 256, .int .u32 512, .int .u32 1024] (by kernel_rfl) (t := 162) (by kernel_rfl) (e := 27) (m := 4) (by kernel_rfl) (by kernel_rfl) (by kernel_rfl) (.inl ⟨.u32, by kernel_rfl⟩) rfl
  exact ⟨lies_of (by decide) this.1, this.2⟩
end Go.Proofs.YtbgfoobcpacfeaaDoor
