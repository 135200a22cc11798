/- A slice of words that came in. -/
import Derived.Test.YtckbckdaffdjmaaDoorLw
import Derived.Test.YtckbckdaffdjmaaDoorBu
namespace Go.Proofs.YtckbckdaffdjmaaDoor
open Go.RowKit Go.ChangeShapes
set_option maxRecDepth 100000
set_option linter.unusedVariables false
set_option linter.unusedSimpArgs false

theorem uy_u64 : Tryd.prog.underlying 58 = some (.int .u64) := by kernel_rfl
theorem uy_c1 : Tryd.prog.cellsOf 58 = 1 := by kernel_rfl
theorem uy_b8 : Tryd.prog.bytesOf 58 = 8 := by kernel_rfl
theorem uv_of_wf {n : Int} (h : (Lit.int .u64 n).wf = true) : ∃ b : UInt64, Value.int .u64 n = uv b := by
  obtain ⟨m, rfl, hm⟩ := u64_wf h
  exact ⟨UInt64.ofNat m, by show _ = Value.int .u64 ((UInt64.ofNat m).toNat : Int); rw [UInt64.toNat_ofNat', Nat.mod_eq_of_lt hm]⟩
section
variable {H : Type} {enc : TypeId × Value → H} {W : World} {base : Nat} {spare : Nat → Bool} {held : Bool}
/-- A slice of words that came in reads as a list. -/
theorem ru_of_trod {fuel : Nat} {v : Value} {x : DataW H × List MemPlace} (h : DataW.trod enc Tryd.prog W base spare held fuel 22 [v] = some x) (hw : ∀ n ∈ x.1.weights Tryd.prog 22, n ≤ reachBytes) :
    ∃ l, RU W v l ∧ l.length ≤ 17592186043904 := by
  rcases Go.Deep.open_slice1 uy_tu uy_c1 h with ⟨hcs, rfl⟩ | ⟨a, len, cap, m, n, V, D, Pl, hcs, hb, hl, hm, hmm, rfl, hx⟩
  · cases hcs
    exact ⟨[], RU.nil_ W, by simp⟩
  · simp only [List.cons.injEq, and_true] at hcs
    subst hcs
    have hlm : len ≤ m := by rw [hmm]; split <;> omega
    have hlen : len ≤ 17592186043904 := by
      have := hw ((len + (m - len)) * Tryd.prog.bytesOf 58) (by simp [DataW.weights, uy_tu])
      rw [uy_b8] at this
      simp only [reachBytes] at this
      omega
    have hB : ∀ i, i < len → ∃ b : UInt64, V i = uv b := fun i hi => by
      obtain ⟨_, ht⟩ := hx i (by omega)
      obtain ⟨k, e, _, hwf⟩ := DataW.trod_int uy_u64 ht
      simp only [List.cons.injEq, and_true] at e
      obtain ⟨b, hb⟩ := uv_of_wf hwf
      exact ⟨b, e.trans hb⟩
    obtain ⟨bs, hbs⟩ := Go.Deep.choose_lt (α := UInt64) (p := fun i b => V i = uv b) hB
    have hll : ((List.range len).map bs).length = len := by simp
    have hcellb : ∀ i b, ((List.range len).map bs)[i]? = some b → ∃ g o, some a = some (⟨g, o, none⟩ : Addr) ∧ g < W.heap.size ∧ W.cell? ⟨g, o + i, none⟩ = some (uv b) := fun i b hi => by
      have hil : i < len := by have := (List.getElem?_eq_some_iff.1 hi).1; simpa using this
      have hbi : bs i = b := by
        rw [List.getElem?_map, List.getElem?_range hil] at hi
        simpa using hi
      obtain ⟨hc, _⟩ := hx i (by omega)
      have hsp := World.cell?_spot (hx 0 (by omega)).1
      obtain ⟨g, off, spot⟩ := a
      have hspot : spot = none := by simpa [Addr.add] using hsp
      subst hspot
      rw [add_flat] at hc
      refine ⟨g, off, rfl, cell_lt hc, ?_⟩
      rw [hc, hbs i hil, hbi]
    exact ⟨(List.range len).map bs, ⟨some a, cap, by rw [hll], by rw [hll]; exact hl, hm, by rw [hll]; omega, hcellb⟩, by rw [hll]; exact hlen⟩
theorem open_words {b : Nat} {v : Value} {d : DataW H} {ps : List MemPlace} (hv : Value.okWide Tryd.prog W .any b 22 v) (h : DataW.Trod enc Tryd.prog W base spare held 22 v d ps) (hw : ∀ n ∈ d.weights Tryd.prog 22, n ≤ reachBytes) :
    ∃ l, RU W v l ∧ l.length ≤ 17592186043904 := by
  obtain ⟨pa, n, cp, rfl⟩ := Go.WideShapes.okWide_slice uy_tu hv
  obtain ⟨fuel, hf⟩ := h
  exact ru_of_trod hf hw
end
end Go.Proofs.YtckbckdaffdjmaaDoor
