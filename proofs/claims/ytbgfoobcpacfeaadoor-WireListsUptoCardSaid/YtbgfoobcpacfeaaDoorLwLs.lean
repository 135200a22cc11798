/- Slices of packets and of frames that came in; what their bulk gives. -/
import Derived.Test.YtbgfoobcpacfeaaDoorPk8
import Derived.Test.YtbgfoobcpacfeaaDoorWlMain
import Derived.Deep.DeepHandedRow
import Derived.Deep.DeepWitnessRowRef
namespace Go.Proofs.YtbgfoobcpacfeaaDoor
open Go.RowKit Go.ChangeShapes Go.WideShapes Go.ChangeAt
set_option maxRecDepth 100000
set_option linter.unusedVariables false
set_option linter.unusedSimpArgs false

/-! What the bulk of a datum gives. -/
theorem bulk_pos {H : Type} (d : DataW H) : 1 ≤ Rows.uptoBulk d := by
  cases d with
  | lit l => cases l <;> simp [Rows.uptoBulk]
  | nil => simp [Rows.uptoBulk]
  | ptr d => simp [Rows.uptoBulk]
  | slice elems spare => simp [Rows.uptoBulk]
  | agg parts => simp [Rows.uptoBulk]
  | iface t d => simp [Rows.uptoBulk]
  | map entries => simp [Rows.uptoBulk]
  | held h => simp [Rows.uptoBulk]
theorem bulk_len {H : Type} : ∀ l : List (DataW H), l.length ≤ Rows.uptoBulkAll l
  | [] => by simp
  | x :: r => by
    have := bulk_pos x
    have := bulk_len r
    simp only [Rows.uptoBulkAll, List.length_cons]; omega
theorem bulk_slice {H : Type} (elems spare : List (DataW H)) : elems.length ≤ Rows.uptoBulk (.slice elems spare) := by
  have h1 := bulk_len elems
  simp only [Rows.uptoBulk]
  omega
theorem bulk_two {H : Type} {d d' : DataW H} (h : Rows.uptoSmall H ([d, d'] ++ []) = true) : Rows.uptoBulk d ≤ 1048576 ∧ Rows.uptoBulk d' ≤ 1048576 := by
  have h : Rows.uptoBulkAll [d, d'] ≤ 1048576 := of_decide_eq_true h
  simp only [Rows.uptoBulkAll] at h
  omega
theorem pks_tu : Tryd.prog.underlying 60 = some (.slice 34) := by kernel_rfl
theorem frs_tu : Tryd.prog.underlying 61 = some (.slice 50) := by kernel_rfl
theorem pk_c : Tryd.prog.cellsOf 34 = 43 := by kernel_rfl
theorem fr_c : Tryd.prog.cellsOf 50 = 6 := by kernel_rfl
theorem fr_leaves' : leaves Tryd.prog 10 50 = some [.int .i64, .int .u32, .int .u32, .int .u32, .int .u32, .other 32] := by kernel_rfl

section
variable {H : Type} {enc : TypeId × Value → H} {W : World} {b base : Nat} {spare : Nat → Bool} {held : Bool}
theorem pk_of_leaves {cs : List Value} (hl : LeavesW enc Tryd.prog W base spare held reachBytes (.int .i64 :: .int .u32 :: .int .u32 :: .int .u32 :: .int .u32 :: .int .u32 :: .int .u64 :: .int .u64 :: .int .u64 :: .int .u64 :: (List.replicate 32 (.int .u8) ++ [.other 32])) cs) :
    ∃ (p : Wi.Pk) (pv : Value), cs = pkL p pv ∧ p.Ok ∧ RB W pv p.data := by
  obtain ⟨c, _, rfl, _, hl⟩ := hl.int
  obtain ⟨n0, _, rfl, h0, hl⟩ := hl.int
  obtain ⟨n1, _, rfl, h1, hl⟩ := hl.int
  obtain ⟨n2, _, rfl, h2, hl⟩ := hl.int
  obtain ⟨n3, _, rfl, h3, hl⟩ := hl.int
  obtain ⟨n4, _, rfl, h4, hl⟩ := hl.int
  obtain ⟨g1, _, rfl, k1, hl⟩ := hl.int
  obtain ⟨g2, _, rfl, k2, hl⟩ := hl.int
  obtain ⟨g3, _, rfl, k3, hl⟩ := hl.int
  obtain ⟨g4, _, rfl, k4, hl⟩ := hl.int
  obtain ⟨s, r, hs, rfl, hl2⟩ := LeavesW.bytes 32 _ hl
  obtain ⟨vp, _, rfl, ⟨fuel, x, hx, hwx⟩, hl3⟩ := hl2.other
  obtain rfl := hl3.unnil
  obtain ⟨n0, rfl, h0'⟩ := u32_wf h0
  obtain ⟨n1, rfl, h1'⟩ := u32_wf h1
  obtain ⟨n2, rfl, h2'⟩ := u32_wf h2
  obtain ⟨n3, rfl, h3'⟩ := u32_wf h3
  obtain ⟨n4, rfl, h4'⟩ := u32_wf h4
  obtain ⟨g1, rfl, k1'⟩ := u64_wf k1
  obtain ⟨g2, rfl, k2'⟩ := u64_wf k2
  obtain ⟨g3, rfl, k3'⟩ := u64_wf k3
  obtain ⟨g4, rfl, k4'⟩ := u64_wf k4
  obtain ⟨l, hr, _, hlen⟩ := rb_of_trod hx hwx
  exact ⟨⟨c, n0, n1, n2, n3, n4, g1, g2, g3, g4, s, l⟩, vp, rfl, ⟨h0', h1', h2', h3', h4', k1', k2', k3', k4', hs, hlen⟩, hr⟩
theorem fr_of_leaves {cs : List Value} (hl : LeavesW enc Tryd.prog W base spare held reachBytes [.int .i64, .int .u32, .int .u32, .int .u32, .int .u32, .other 32] cs) :
    ∃ (x : Wi.Fr) (pv : Value), cs = (frameC x pv).toList ∧ x.Ok ∧ RB W pv x.pay := by
  obtain ⟨k, _, rfl, _, hl⟩ := hl.int
  obtain ⟨f, _, rfl, hf, hl⟩ := hl.int
  obtain ⟨t, _, rfl, ht, hl⟩ := hl.int
  obtain ⟨s, _, rfl, hs, hl⟩ := hl.int
  obtain ⟨a, _, rfl, ha, hl⟩ := hl.int
  obtain ⟨vp, _, rfl, ⟨fuel, x, hx, hwx⟩, hl⟩ := hl.other
  obtain rfl := hl.unnil
  obtain ⟨f, rfl, hf'⟩ := u32_wf hf
  obtain ⟨t, rfl, ht'⟩ := u32_wf ht
  obtain ⟨s, rfl, hs'⟩ := u32_wf hs
  obtain ⟨a, rfl, ha'⟩ := u32_wf ha
  obtain ⟨l, hr, _, hlen⟩ := rb_of_trod hx hwx
  exact ⟨⟨k, f, t, s, a, l⟩, vp, rfl, ⟨hf', ht', hs', ha'⟩, hr⟩
theorem range_of_cells {g o n sz : Nat} {spot : Option _} {cs : List Value} (hs : spot = none) (h : W.cells? base ((⟨g, o, spot⟩ : Addr).add n) sz = some cs) : W.rangeAt g (o + n) cs := by
  subst hs
  obtain ⟨_, hlen, hc⟩ := World.cells?_some h
  intro j u hu
  have hj : j < sz := by rw [← hlen]; exact (List.getElem?_eq_some_iff.1 hu).1
  have := hc j hj
  rw [add_flat, add_flat] at this
  rw [this]; exact hu
theorem weights_elem {t e : TypeId} {D : Nat → DataW H} {len : Nat} {spr : List (DataW H)} (ht : Tryd.prog.underlying t = some (.slice e)) (hw : ∀ n ∈ (DataW.slice ((List.range len).map D) spr).weights Tryd.prog t, n ≤ reachBytes) {i : Nat} (hi : i < len) : ∀ n ∈ (D i).weights Tryd.prog e, n ≤ reachBytes := by
  intro n hn
  refine hw n ?_
  simp only [DataW.weights, ht, List.mem_cons, List.mem_append]
  right; left
  exact weights_mem_all (j := i) (by rw [List.getElem?_map, List.getElem?_range hi]; rfl) n hn
/-- A slice of packets that came in. -/
theorem open_packets {v : Value} {d : DataW H} {ps : List MemPlace} (hv : Value.okWide Tryd.prog W .any b 60 v) (h : DataW.Trod enc Tryd.prog W base spare held 60 v d ps) (hw : ∀ n ∈ d.weights Tryd.prog 60, n ≤ reachBytes) (hb : Rows.uptoBulk d ≤ 1048576) :
    ∃ P : List Wi.Pk, SlPk W v P ∧ P.length ≤ 1048576 := by
  obtain ⟨pa, n, cp, rfl⟩ := Go.WideShapes.okWide_slice pks_tu hv
  obtain ⟨fuel, hf⟩ := h
  rcases Go.Deep.open_slice pks_tu hf with ⟨hcs, hx⟩ | ⟨a, len, cap, m, k, D, Pl, hcs, hba, hl, hm, hmm, hx, hall⟩
  · simp [Value.cells] at hcs
    obtain ⟨rfl, rfl, rfl⟩ := hcs
    exact ⟨[], ⟨none, 0, rfl, by simp, fun i p hp => by simp at hp⟩, by simp⟩
  · simp [Value.cells] at hcs
    obtain ⟨rfl, rfl, rfl⟩ := hcs
    simp only [Prod.mk.injEq] at hx
    obtain ⟨rfl, _⟩ := hx
    have hn : n ≤ 1048576 := by have := bulk_slice ((List.range n).map D) ((List.range (m - n)).map fun j => D (n + j)); simp only [List.length_map, List.length_range] at this; omega
    have hlm : n ≤ m := by rw [hmm]; split <;> omega
    rw [pk_c] at hall
    have hE : ∀ i, i < n → ∃ y : Wi.Pk × Value, y.1.Ok ∧ RB W y.2 y.1.data ∧ W.cells? base (a.add (i * 43)) 43 = some (pkL y.1 y.2) := fun i hi => by
      obtain ⟨cs, hc, ht⟩ := hall i (by omega)
      obtain ⟨p, pv, rfl, h1, h2⟩ := pk_of_leaves (leaves_okW 20 _ _ _ _ _ pk_leaves ht (weights_elem pks_tu hw hi))
      exact ⟨(p, pv), h1, h2, hc⟩
    haveI : Inhabited (Wi.Pk × Value) := ⟨(Wi.Pk.zero 0, .slice none 0 0)⟩
    obtain ⟨y, hy⟩ := Go.Deep.choose_lt (α := Wi.Pk × Value) (p := fun i y => y.1.Ok ∧ RB W y.2 y.1.data ∧ W.cells? base (a.add (i * 43)) 43 = some (pkL y.1 y.2)) hE
    have hll : ((List.range n).map fun i => (y i).1).length = n := by simp
    refine ⟨(List.range n).map fun i => (y i).1, ⟨some a, cp, by rw [hll], by rw [hll]; omega, fun i p hp => ?_⟩, by rw [hll]; exact hn⟩
    have hi : i < n := by have := (List.getElem?_eq_some_iff.1 hp).1; rwa [hll] at this
    rw [List.getElem?_map, List.getElem?_range hi] at hp
    have hp : (y i).1 = p := by simpa using hp
    subst hp
    obtain ⟨h1, h2, h3⟩ := hy i hi
    obtain ⟨_, _, hc0⟩ := World.cells?_some (hy 0 (by omega)).2.2
    have h00 := hc0 0 (by decide)
    have hsp := World.cell?_spot (w := W) (a := (a.add (0 * 43)).add 0) (v := .int .i64 (y 0).1.cmd) (by rw [h00]; rfl)
    obtain ⟨g, off, spot⟩ := a
    have hspot : spot = none := by simpa [Addr.add] using hsp
    subst hspot
    have hr := range_of_cells rfl h3
    refine ⟨g, off, (y i).2, rfl, cell_lt (hr 0 _ rfl), h1, h2, hr⟩
/-- A slice of frames that came in. -/
theorem open_frames {v : Value} {d : DataW H} {ps : List MemPlace} (hv : Value.okWide Tryd.prog W .any b 61 v) (h : DataW.Trod enc Tryd.prog W base spare held 61 v d ps) (hw : ∀ n ∈ d.weights Tryd.prog 61, n ≤ reachBytes) (hb : Rows.uptoBulk d ≤ 1048576) :
    ∃ F : List Wi.Fr, SlFr W v F ∧ F.length ≤ 1048576 := by
  obtain ⟨pa, n, cp, rfl⟩ := Go.WideShapes.okWide_slice frs_tu hv
  obtain ⟨fuel, hf⟩ := h
  rcases Go.Deep.open_slice frs_tu hf with ⟨hcs, hx⟩ | ⟨a, len, cap, m, k, D, Pl, hcs, hba, hl, hm, hmm, hx, hall⟩
  · simp [Value.cells] at hcs
    obtain ⟨rfl, rfl, rfl⟩ := hcs
    exact ⟨[], ⟨none, 0, rfl, by simp, fun i p hp => by simp at hp⟩, by simp⟩
  · simp [Value.cells] at hcs
    obtain ⟨rfl, rfl, rfl⟩ := hcs
    simp only [Prod.mk.injEq] at hx
    obtain ⟨rfl, _⟩ := hx
    have hn : n ≤ 1048576 := by have := bulk_slice ((List.range n).map D) ((List.range (m - n)).map fun j => D (n + j)); simp only [List.length_map, List.length_range] at this; omega
    have hlm : n ≤ m := by rw [hmm]; split <;> omega
    rw [fr_c] at hall
    have hE : ∀ i, i < n → ∃ y : Wi.Fr × Value, y.1.Ok ∧ RB W y.2 y.1.pay ∧ W.cells? base (a.add (i * 6)) 6 = some (frameC y.1 y.2).toList := fun i hi => by
      obtain ⟨cs, hc, ht⟩ := hall i (by omega)
      obtain ⟨p, pv, rfl, h1, h2⟩ := fr_of_leaves (leaves_okW 10 _ _ _ _ _ fr_leaves' ht (weights_elem frs_tu hw hi))
      exact ⟨(p, pv), h1, h2, hc⟩
    haveI : Inhabited (Wi.Fr × Value) := ⟨(Wi.zero, .slice none 0 0)⟩
    obtain ⟨y, hy⟩ := Go.Deep.choose_lt (α := Wi.Fr × Value) (p := fun i y => y.1.Ok ∧ RB W y.2 y.1.pay ∧ W.cells? base (a.add (i * 6)) 6 = some (frameC y.1 y.2).toList) hE
    have hll : ((List.range n).map fun i => (y i).1).length = n := by simp
    refine ⟨(List.range n).map fun i => (y i).1, ⟨some a, cp, by rw [hll], by rw [hll]; omega, fun i p hp => ?_⟩, by rw [hll]; exact hn⟩
    have hi : i < n := by have := (List.getElem?_eq_some_iff.1 hp).1; rwa [hll] at this
    rw [List.getElem?_map, List.getElem?_range hi] at hp
    have hp : (y i).1 = p := by simpa using hp
    subst hp
    obtain ⟨h1, h2, h3⟩ := hy i hi
    obtain ⟨_, _, hc0⟩ := World.cells?_some (hy 0 (by omega)).2.2
    have h00 := hc0 0 (by decide)
    have hsp := World.cell?_spot (w := W) (a := (a.add (0 * 6)).add 0) (v := .int .i64 (y 0).1.kind) (by rw [h00]; rfl)
    obtain ⟨g, off, spot⟩ := a
    have hspot : spot = none := by simpa [Addr.add] using hsp
    subst hspot
    have hr := range_of_cells rfl h3
    refine ⟨g, off, (y i).2, rfl, cell_lt (hr 0 _ rfl), h1, h2, hr⟩
end
end Go.Proofs.YtbgfoobcpacfeaaDoor
