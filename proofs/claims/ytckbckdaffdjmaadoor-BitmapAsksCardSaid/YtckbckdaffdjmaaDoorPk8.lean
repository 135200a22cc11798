/- Walks and plain laws of the packets and frames, joined from: LdT. -/
import Derived.Test.YtckbckdaffdjmaaDoorPk7
/- The library's table, as the row lays it. -/
namespace Go.Proofs.YtckbckdaffdjmaaDoor
open Go.RowKit
set_option maxRecDepth 100000
set_option linter.unusedVariables false
set_option linter.unusedSimpArgs false

section
variable {H : Type} {enc : TypeId × Value → H} {P : Program} {w : World} {base : Nat} {sp : Nat → Bool} {held : Bool} {fuel : Nat}
theorem lit_cell {e : TypeId} {c : Value} {x : DataW H × List MemPlace} {l : Lit} (he : (∃ k, P.underlying e = some (.int k)) ∨ P.underlying e = some .string)
    (h : DataW.trod enc P w base sp held fuel e [c] = some x) (hx : x.1 = .lit l) : c = l.value := by
  rcases he with ⟨k, he⟩ | he
  · obtain ⟨n, hc, hxx, _⟩ := DataW.trod_int he h
    simp only [List.cons.injEq, and_true] at hc
    subst hc
    rw [hxx] at hx
    cases hx
    rfl
  · obtain ⟨s, hc, hxx, _⟩ := DataW.trod_string he h
    simp only [List.cons.injEq, and_true] at hc
    subst hc
    rw [hxx] at hx
    cases hx
    rfl
theorem lits_cells {t e : TypeId} {n : Nat} {cs : List Value} {x : DataW H × List MemPlace} (hu : P.underlying t = some (.array n e)) (hc : P.cellsOf e = 1) (hct : P.cellsOf t = n)
    (he : (∃ k, P.underlying e = some (.int k)) ∨ P.underlying e = some .string) (h : DataW.trod enc P w base sp held fuel t cs = some x) (ls : List Lit) (hx : x.1 = .agg (ls.map .lit)) :
    cs = ls.map Lit.value := by
  obtain ⟨xs, m, rfl, rfl, hl, hn, hel⟩ := DataW.trod_array hu h
  have hxs : xs.map (·.1) = ls.map .lit := by simpa using hx
  have hlen : ls.length = n := by have := congrArg List.length hxs; simp at this; omega
  apply List.ext_getElem?
  intro i
  by_cases hi : i < n
  · have h1 := hel i hi
    rw [hc, Nat.mul_one] at h1
    have hci : i < cs.length := by omega
    have e1 : (cs.drop i).take 1 = [cs[i]] := by rw [List.drop_eq_getElem_cons hci]; rfl
    rw [e1, List.getElem?_eq_getElem (by omega)] at h1
    have h2 : xs[i].1 = .lit ls[i] := by
      have := congrArg (fun l => l[i]?) hxs
      simpa [List.getElem?_map, List.getElem?_eq_getElem (show i < xs.length by omega), List.getElem?_eq_getElem (show i < ls.length by omega)] using this
    rw [List.getElem?_eq_getElem hci, List.getElem?_map, List.getElem?_eq_getElem (show i < ls.length by omega), lit_cell he h1 h2]
    rfl
  · rw [List.getElem?_eq_none (by omega), List.getElem?_eq_none (by simp; omega)]
/-- A laid variable's cells. -/
theorem laid_var {n : String} {d : DataW Unit} {r : List (String × DataW Unit)} {ps : List MemPlace} (h : DataW.LaidVars P w ((n, d) :: r) ps) {g : Nat} {t e : TypeId} {m : Nat} (ls : List Lit) (hg : P.globalNamed n = some g)
    (ht : (P.globals[g]?).map (·.type) = some t) (hu : P.underlying t = some (.array m e)) (hc : P.cellsOf e = 1) (hct : P.cellsOf t = m) (he : (∃ k, P.underlying e = some (.int k)) ∨ P.underlying e = some .string) (hd : d = .agg (ls.map .lit)) :
    (∀ i l, ls[i]? = some l → w.cell? ⟨g, i, none⟩ = some l.value) ∧ ∃ ps', DataW.LaidVars P w r ps' := by
  obtain ⟨g', t', cs, fuel, p, q, hg', ht', hv, htr, hr, _⟩ := h
  obtain rfl : g = g' := Option.some.inj (hg.symm.trans hg')
  obtain rfl : t = t' := Option.some.inj (ht.symm.trans ht')
  have hcs := lits_cells hu hc hct he htr ls hd
  refine ⟨fun i l hl => ?_, _, hr⟩
  rw [World.var?_cell hg hv i, ← Array.getElem?_toList, hcs, List.getElem?_map, hl]
  rfl
theorem laid_of {laid : List (String × DataW Unit)} (hp : (laid.all fun x => x.2.handleName?.isNone) = true) (h : laidMetH P laid w) : ∃ ps, DataW.LaidVars P w laid ps := by
  rw [MakeChecks.laidMetH_plain _ _ _ hp] at h
  obtain ⟨ps, h, _⟩ := h
  exact ⟨ps, h⟩
end
theorem tz_of {W : World} (h : laidMetH Tryd.prog [("math/bits.deBruijn64tab", Rows.laid_math_bits_deBruijn64tab)] W) : Tz W := by
  obtain ⟨ps, h⟩ := laid_of (by kernel_rfl) h
  obtain ⟨h1, -⟩ := laid_var h (g := 0) (Lib.deBruijn64tab.map fun c : Nat => Lit.int .u8 (c : Int)) (by kernel_rfl) (t := 130) (by kernel_rfl) (e := 5) (m := 64) (by kernel_rfl) (by kernel_rfl) (by kernel_rfl) (.inl ⟨.u8, by kernel_rfl⟩) rfl
  intro j hj
  refine (h1 j (.int .u8 ((Lib.deBruijn64tab.getD j 0 : Nat) : Int)) ?_).trans rfl
  rw [List.getElem?_map, List.getElem?_eq_getElem hj, List.getD_eq_getElem?_getD, List.getElem?_eq_getElem hj]; rfl
section
open Go.ChangeShapes
variable {H : Type} {enc : TypeId × Value → H} {P : Program} {W : World} {base : Nat} {spare : Nat → Bool} {held : Bool}
theorem trodAll_fiveU {t0 t1 t2 t3 t4 : TypeId} {args : Array Value} {ds : List (DataW H)} {ps : List MemPlace} (h : DataW.TrodAll enc P W base spare held [t0, t1, t2, t3, t4] args.toList ds ps) :
    ∃ v0 v1 v2 v3 v4 d0 d1 d2 d3 d4 p0 p1 p2 p3 p4, args = #[v0, v1, v2, v3, v4] ∧ ds = [d0, d1, d2, d3, d4] ∧ DataW.Trod enc P W base spare held t0 v0 d0 p0 ∧ DataW.Trod enc P W base spare held t1 v1 d1 p1 ∧ DataW.Trod enc P W base spare held t2 v2 d2 p2 ∧ DataW.Trod enc P W base spare held t3 v3 d3 p3 ∧ DataW.Trod enc P W base spare held t4 v4 d4 p4 := by
  obtain ⟨v0, x0, d0, y0, p0, q0, hargs, rfl, rfl, h0, r0⟩ := trodAll_cons h
  obtain ⟨v1, x1, d1, y1, p1, q1, rfl, rfl, rfl, h1, r1⟩ := trodAll_cons r0
  obtain ⟨v2, x2, d2, y2, p2, q2, rfl, rfl, rfl, h2, r2⟩ := trodAll_cons r1
  obtain ⟨v3, x3, d3, y3, p3, q3, rfl, rfl, rfl, h3, r3⟩ := trodAll_cons r2
  obtain ⟨v4, x4, d4, y4, p4, q4, rfl, rfl, rfl, h4, r4⟩ := trodAll_cons r3
  obtain ⟨rfl, rfl, rfl⟩ := trodAll_nil r4
  exact ⟨v0, v1, v2, v3, v4, d0, d1, d2, d3, d4, p0, p1, p2, p3, p4, by cases args; simp_all, rfl, h0, h1, h2, h3, h4⟩
end
end Go.Proofs.YtckbckdaffdjmaaDoor
