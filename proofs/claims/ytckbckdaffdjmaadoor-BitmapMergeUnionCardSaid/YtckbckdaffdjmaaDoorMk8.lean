/- Walks and plain laws of the packets and frames, joined from: AlV, UnV, UnP, UnsA, UnsM, TlM, TlN, MuA, MuM, MuN, LwOp, LdT, LwLi. -/
import Derived.Test.YtckbckdaffdjmaaDoorMk7
import Derived.Sort.CutIn
import Derived.Sort.AtCall
/- Where a range over All stands, with what its body changes. -/
namespace Go.Proofs.YtckbckdaffdjmaaDoor
open Go.RowKit
set_option maxRecDepth 100000
set_option linter.unusedVariables false
set_option linter.unusedSimpArgs false

theorem PrB.modHi {F : Nat → Prop} {X Y : World} {P p bw ba r bb b n N : Nat} {W : List UInt64} {own : Nat → Prop} {late : Bool} (h : PrB X P p bw ba r bb b n W own late N) (hm : Mod F X Y) (hF : ∀ k, F k → ¬ Pr.At P p bw ba r bb k ∧ ¬ own k) : PrB Y P p bw ba r bb b n W own late N :=
  ⟨h.pr.mod hm fun k a e => (hF k e).1 a, h.bk.mod hm fun k _ e => (hF k e).2, h.no⟩
theorem PrB.cells {X : World} {P p bw ba r bb b n N : Nat} {W : List UInt64} {own : Nat → Prop} {late : Bool} (h : PrB X P p bw ba r bb b n W own late N) : ∀ k, Pr.At P p bw ba r bb k → ∃ c t z, X.heap[k]? = some (.cells c t z) := by
  rintro k (rfl | rfl | rfl | rfl | rfl | rfl)
  · exact ⟨_, _, _, h.pr.hP⟩
  · exact ⟨_, _, _, h.pr.hm.hs⟩
  · exact ⟨_, _, _, h.pr.hm.hw⟩
  · exact ⟨_, _, _, h.pr.hm.ha⟩
  · exact ⟨_, _, _, h.pr.hr.hs⟩
  · exact ⟨_, _, _, h.pr.hr.hb⟩
/-- The law's own cells: the pair's box, the call's, the answer, the iterator's box, ok, act, place, round, left. -/
structure AlN where
  e1 : Nat
  d : Nat
  e2 : Nat
  c : Nat
  e6 : Nat
  e7 : Nat
  e9 : Nat
  e10 : Nat
  e11 : Nat
section
variable (w : World) (P p bw ba r bb b n N : Nat) (own : Nat → Prop) (late : Bool) (o : OpV) (ds : List Nat)
/-- Outside of a pass. -/
structure OuV (m : AlN) (X : World) (W : List UInt64) (v7 : Nat) : Prop where
  pb : PrB X P p bw ba r bb b n W own late N
  mod : Mod (Pr.At P p bw ba r bb) w X
  hk : ∀ k, Pr.At P p bw ba r bb k ∨ own k → k < w.heap.size
  ord : w.heap.size ≤ m.e1 ∧ m.e1 < m.d ∧ m.d < m.e2 ∧ m.e2 < m.c ∧ m.c < m.e6 ∧ m.e6 < m.e7
  h1 : Rw X m.e1 25 [.pointer (some ⟨P, 0, none⟩)]
  hd : Rw X m.d 39 (opL o)
  h2 : Rw X m.e2 4 [.bool false]
  hc : Rw X m.c 32 [.pointer (some ⟨p, 0, none⟩)]
  h6 : Rw X m.e6 4 [.bool true]
  h7 : Rw X m.e7 3 [.int .i64 (v7 : Nat)]
  df : ∀ D ∈ ds, X.heap[D]? = some (.deferred (some []))
/-- Inside of a pass. -/
structure AlV (m : AlN) (Z : Nat) (X : World) (W : List UInt64) (v7 v9 v10 : Nat) (v11 : Bool) : Prop where
  ou : OuV w P p bw ba r bb b n N own late o ds m X W v7
  ord : m.e7 < m.e9 ∧ m.e9 < m.e10 ∧ m.e10 < m.e11 ∧ m.e11 < Z
  h9 : Rw X m.e9 3 [.int .i64 (v9 : Nat)]
  h10 : Rw X m.e10 3 [.int .i64 (v10 : Nat)]
  h11 : Rw X m.e11 4 [.bool v11]
  sz : Z ≤ X.heap.size
  dz : ∀ D ∈ ds, D < Z
end
section
variable {w X Y : World} {P p bw ba r bb b n N Z : Nat} {own : Nat → Prop} {late : Bool} {o : OpV} {ds : List Nat} {m : AlN} {W W' : List UInt64} {v7 v9 v10 : Nat} {v11 : Bool} {F : Nat → Prop}
theorem df_ne {X : World} {D e : Nat} {t : TypeId} {cs : List Value} {l : Option (List Deferred)} (h1 : X.heap[D]? = some (.deferred l)) (h2 : Rw X e t cs) : D ≠ e := by
  rintro rfl
  have h3 : X.heap[D]? = some (.cells cs.toArray t (0, 0)) := h2
  rw [h1] at h3; cases h3
theorem OuV.step (h : OuV w P p bw ba r bb b n N own late o ds m X W v7) (hm : Mod F X Y) (hF : ∀ k, F k → w.heap.size ≤ k ∧ k ≠ m.e1 ∧ k ≠ m.d ∧ k ≠ m.e2 ∧ k ≠ m.c ∧ k ≠ m.e6 ∧ k ≠ m.e7 ∧ k ∉ ds) : OuV w P p bw ba r bb b n N own late o ds m Y W v7 :=
  ⟨h.pb.modHi hm fun k e => ⟨fun a => by have := h.hk k (.inl a); have := (hF k e).1; omega, fun a => by have := h.hk k (.inr a); have := (hF k e).1; omega⟩, h.mod.on hm fun k e => .inr (hF k e).1, h.hk, h.ord,
    h.h1.mod hm (fun e => (hF _ e).2.1 rfl), h.hd.mod hm (fun e => (hF _ e).2.2.1 rfl), h.h2.mod hm (fun e => (hF _ e).2.2.2.1 rfl), h.hc.mod hm (fun e => (hF _ e).2.2.2.2.1 rfl), h.h6.mod hm (fun e => (hF _ e).2.2.2.2.2.1 rfl), h.h7.mod hm (fun e => (hF _ e).2.2.2.2.2.2.1 rfl), fun D hD => (hm.block D (heap_lt (h.df D hD)) (fun e => (hF D e).2.2.2.2.2.2.2 hD)).trans (h.df D hD)⟩
theorem OuV.below (h : OuV w P p bw ba r bb b n N own late o ds m X W v7) (hb : Below X.heap.size X Y) : OuV w P p bw ba r bb b n N own late o ds m Y W v7 := h.step (F := fun _ => False) (Mod.of_below hb) fun _ e => e.elim
theorem OuV.re (h : OuV w P p bw ba r bb b n N own late o ds m X W v7) (a c e : Nat) : OuV w P p bw ba r bb b n N own late o ds { m with e9 := a, e10 := c, e11 := e } X W v7 := ⟨h.pb, h.mod, h.hk, h.ord, h.h1, h.hd, h.h2, h.hc, h.h6, h.h7, h.df⟩
theorem OuV.un {a c e : Nat} (h : OuV w P p bw ba r bb b n N own late o ds { m with e9 := a, e10 := c, e11 := e } X W v7) : OuV w P p bw ba r bb b n N own late o ds m X W v7 := ⟨h.pb, h.mod, h.hk, h.ord, h.h1, h.hd, h.h2, h.hc, h.h6, h.h7, h.df⟩
theorem OuV.size (h : OuV w P p bw ba r bb b n N own late o ds m X W v7) : w.heap.size ≤ X.heap.size := h.mod.size
/-- Behind a change of the bits. -/
theorem OuV.chg (h : OuV w P p bw ba r bb b n N own late o ds m X W v7) (hp : PrB Y P p bw ba r bb b n W' own late N) (hm : Mod (Pr.At P p bw ba r bb) X Y) : OuV w P p bw ba r bb b n N own late o ds m Y W' v7 := by
  obtain ⟨q1, q2, q3, q4, q5, q6⟩ := h.ord
  have hn : ∀ k, w.heap.size ≤ k → ¬ Pr.At P p bw ba r bb k := fun k hk a => by have := h.hk k (.inl a); omega
  exact ⟨hp, h.mod.trans hm, h.hk, h.ord, h.h1.mod hm (hn _ (by omega)), h.hd.mod hm (hn _ (by omega)), h.h2.mod hm (hn _ (by omega)), h.hc.mod hm (hn _ (by omega)), h.h6.mod hm (hn _ (by omega)), h.h7.mod hm (hn _ (by omega)), fun D hD => (hm.block D (heap_lt (h.df D hD)) (fun e => by obtain ⟨c, t, z, hc⟩ := h.pb.cells D e; rw [h.df D hD] at hc; cases hc)).trans (h.df D hD)⟩
theorem OuV.set6 (h : OuV w P p bw ba r bb b n N own late o ds m X W v7) : OuV w P p bw ba r bb b n N own late o ds m (X.setCell ⟨m.e6, 0, none⟩ (.bool true)) W v7 := by
  obtain ⟨q1, q2, q3, q4, q5, q6⟩ := h.ord
  have hm : Mod (fun k => k = m.e6) X (X.setCell ⟨m.e6, 0, none⟩ (.bool true)) := Mod.setCell _ _ _ _ rfl
  exact ⟨h.pb.modHi hm fun k e => ⟨fun a => by have := h.hk k (.inl a); omega, fun a => by have := h.hk k (.inr a); omega⟩, h.mod.on hm fun k e => .inr (by omega), h.hk, h.ord,
    h.h1.mod hm (by omega), h.hd.mod hm (by omega), h.h2.mod hm (by omega), h.hc.mod hm (by omega), h.h6.set 0 (.bool true), h.h7.mod hm (by omega), fun D hD => (hm.block D (heap_lt (h.df D hD)) (df_ne (h.df D hD) h.h6)).trans (h.df D hD)⟩
theorem OuV.set7 (h : OuV w P p bw ba r bb b n N own late o ds m X W v7) : OuV w P p bw ba r bb b n N own late o ds m (X.setCell ⟨m.e7, 0, none⟩ (.int .i64 ((v7 : Int) + 1))) W (v7 + 1) := by
  obtain ⟨q1, q2, q3, q4, q5, q6⟩ := h.ord
  have hm : Mod (fun k => k = m.e7) X (X.setCell ⟨m.e7, 0, none⟩ (.int .i64 ((v7 : Int) + 1))) := Mod.setCell _ _ _ _ rfl
  exact ⟨h.pb.modHi hm fun k e => ⟨fun a => by have := h.hk k (.inl a); omega, fun a => by have := h.hk k (.inr a); omega⟩, h.mod.on hm fun k e => .inr (by omega), h.hk, h.ord,
    h.h1.mod hm (by omega), h.hd.mod hm (by omega), h.h2.mod hm (by omega), h.hc.mod hm (by omega), h.h6.mod hm (by omega), h.h7.set 0 (.int .i64 ((v7 : Int) + 1)), fun D hD => (hm.block D (heap_lt (h.df D hD)) (df_ne (h.df D hD) h.h7)).trans (h.df D hD)⟩
theorem AlV.step (h : AlV w P p bw ba r bb b n N own late o ds m Z X W v7 v9 v10 v11) (hm : Mod F X Y) (hF : ∀ k, F k → Z ≤ k) : AlV w P p bw ba r bb b n N own late o ds m Z Y W v7 v9 v10 v11 := by
  obtain ⟨q1, q2, q3, q4, q5, q6⟩ := h.ou.ord
  obtain ⟨r1, r2, r3, r4⟩ := h.ord
  exact ⟨h.ou.step hm fun k e => (by have := hF k e; exact ⟨by omega, by omega, by omega, by omega, by omega, by omega, by omega, fun hD => by have := h.dz k hD; omega⟩), h.ord, h.h9.mod hm (fun e => by have := hF _ e; omega), h.h10.mod hm (fun e => by have := hF _ e; omega), h.h11.mod hm (fun e => by have := hF _ e; omega), Nat.le_trans h.sz hm.size, h.dz⟩
theorem AlV.below (h : AlV w P p bw ba r bb b n N own late o ds m Z X W v7 v9 v10 v11) (hb : Below X.heap.size X Y) : AlV w P p bw ba r bb b n N own late o ds m Z Y W v7 v9 v10 v11 := h.step (F := fun _ => False) (Mod.of_below hb) fun _ e => e.elim
theorem AlV.chg (h : AlV w P p bw ba r bb b n N own late o ds m Z X W v7 v9 v10 v11) (hp : PrB Y P p bw ba r bb b n W' own late N) (hm : Mod (Pr.At P p bw ba r bb) X Y) : AlV w P p bw ba r bb b n N own late o ds m Z Y W' v7 v9 v10 v11 := by
  obtain ⟨q1, q2, q3, q4, q5, q6⟩ := h.ou.ord
  obtain ⟨r1, r2, r3, r4⟩ := h.ord
  have hn : ∀ k, w.heap.size ≤ k → ¬ Pr.At P p bw ba r bb k := fun k hk a => by have := h.ou.hk k (.inl a); omega
  exact ⟨h.ou.chg hp hm, h.ord, h.h9.mod hm (hn _ (by omega)), h.h10.mod hm (hn _ (by omega)), h.h11.mod hm (hn _ (by omega)), Nat.le_trans h.sz hm.size, h.dz⟩
theorem AlV.set6 (h : AlV w P p bw ba r bb b n N own late o ds m Z X W v7 v9 v10 v11) : AlV w P p bw ba r bb b n N own late o ds m Z (X.setCell ⟨m.e6, 0, none⟩ (.bool true)) W v7 v9 v10 v11 := by
  obtain ⟨q1, q2, q3, q4, q5, q6⟩ := h.ou.ord
  obtain ⟨r1, r2, r3, r4⟩ := h.ord
  have hm : Mod (fun k => k = m.e6) X (X.setCell ⟨m.e6, 0, none⟩ (.bool true)) := Mod.setCell _ _ _ _ rfl
  exact ⟨h.ou.set6, h.ord, h.h9.mod hm (by omega), h.h10.mod hm (by omega), h.h11.mod hm (by omega), Nat.le_trans h.sz hm.size, h.dz⟩
theorem AlV.set7 (h : AlV w P p bw ba r bb b n N own late o ds m Z X W v7 v9 v10 v11) : AlV w P p bw ba r bb b n N own late o ds m Z (X.setCell ⟨m.e7, 0, none⟩ (.int .i64 ((v7 : Int) + 1))) W (v7 + 1) v9 v10 v11 := by
  obtain ⟨q1, q2, q3, q4, q5, q6⟩ := h.ou.ord
  obtain ⟨r1, r2, r3, r4⟩ := h.ord
  have hm : Mod (fun k => k = m.e7) X (X.setCell ⟨m.e7, 0, none⟩ (.int .i64 ((v7 : Int) + 1))) := Mod.setCell _ _ _ _ rfl
  exact ⟨h.ou.set7, h.ord, h.h9.mod hm (by omega), h.h10.mod hm (by omega), h.h11.mod hm (by omega), Nat.le_trans h.sz hm.size, h.dz⟩
theorem AlV.set9 (h : AlV w P p bw ba r bb b n N own late o ds m Z X W v7 v9 v10 v11) (x : Nat) : AlV w P p bw ba r bb b n N own late o ds m Z (X.setCell ⟨m.e9, 0, none⟩ (.int .i64 (x : Nat))) W v7 x v10 v11 := by
  obtain ⟨q1, q2, q3, q4, q5, q6⟩ := h.ou.ord
  obtain ⟨r1, r2, r3, r4⟩ := h.ord
  have hm : Mod (fun k => k = m.e9) X (X.setCell ⟨m.e9, 0, none⟩ (.int .i64 (x : Nat))) := Mod.setCell _ _ _ _ rfl
  exact ⟨h.ou.step hm fun k e => (by subst e; exact ⟨by omega, by omega, by omega, by omega, by omega, by omega, by omega, fun hD => df_ne (h.ou.df _ hD) h.h9 rfl⟩), h.ord, h.h9.set 0 (.int .i64 (x : Nat)), h.h10.mod hm (by omega), h.h11.mod hm (by omega), Nat.le_trans h.sz hm.size, h.dz⟩
theorem AlV.set10 (h : AlV w P p bw ba r bb b n N own late o ds m Z X W v7 v9 v10 v11) : AlV w P p bw ba r bb b n N own late o ds m Z (X.setCell ⟨m.e10, 0, none⟩ (.int .i64 ((v10 : Int) + 1))) W v7 v9 (v10 + 1) v11 := by
  obtain ⟨q1, q2, q3, q4, q5, q6⟩ := h.ou.ord
  obtain ⟨r1, r2, r3, r4⟩ := h.ord
  have hm : Mod (fun k => k = m.e10) X (X.setCell ⟨m.e10, 0, none⟩ (.int .i64 ((v10 : Int) + 1))) := Mod.setCell _ _ _ _ rfl
  exact ⟨h.ou.step hm fun k e => (by subst e; exact ⟨by omega, by omega, by omega, by omega, by omega, by omega, by omega, fun hD => df_ne (h.ou.df _ hD) h.h10 rfl⟩), h.ord, h.h9.mod hm (by omega), h.h10.set 0 (.int .i64 ((v10 : Int) + 1)), h.h11.mod hm (by omega), Nat.le_trans h.sz hm.size, h.dz⟩
theorem AlV.set11 (h : AlV w P p bw ba r bb b n N own late o ds m Z X W v7 v9 v10 v11) : AlV w P p bw ba r bb b n N own late o ds m Z (X.setCell ⟨m.e11, 0, none⟩ (.bool true)) W v7 v9 v10 true := by
  obtain ⟨q1, q2, q3, q4, q5, q6⟩ := h.ou.ord
  obtain ⟨r1, r2, r3, r4⟩ := h.ord
  have hm : Mod (fun k => k = m.e11) X (X.setCell ⟨m.e11, 0, none⟩ (.bool true)) := Mod.setCell _ _ _ _ rfl
  exact ⟨h.ou.step hm fun k e => (by subst e; exact ⟨by omega, by omega, by omega, by omega, by omega, by omega, by omega, fun hD => df_ne (h.ou.df _ hD) h.h11 rfl⟩), h.ord, h.h9.mod hm (by omega), h.h10.mod hm (by omega), h.h11.set 0 (.bool true), Nat.le_trans h.sz hm.size, h.dz⟩
theorem OuV.add {D : Nat} (h : OuV w P p bw ba r bb b n N own late o ds m X W v7) (hD : X.heap[D]? = some (.deferred (some []))) : OuV w P p bw ba r bb b n N own late o (D :: ds) m X W v7 :=
  ⟨h.pb, h.mod, h.hk, h.ord, h.h1, h.hd, h.h2, h.hc, h.h6, h.h7, fun j hj => by
    rcases List.mem_cons.1 hj with rfl | hj
    · exact hD
    · exact h.df j hj⟩
theorem isUd {t : Array Value} {d : List Deferred} (F : (Nat → Value) → Act) (h : (⟨t, d⟩ : Act) = F (fun k => t.getD k undef)) : Is F ⟨t, d⟩ := ⟨_, h⟩
/-- The mark of a range over a function. -/
def mark (D : Nat) : Deferred := { target := .collected D, args := #[] }
/-- Leaving a function behind ranges over functions. -/
theorem leaves_marks {G : Fence} {k : Nat} {fn : Func} {tmps : Array Value} {R : Ending → World → Prop} : ∀ (ds : List Nat) (X : World), (∀ D ∈ ds, X.heap[D]? = some (.deferred (some []))) → ds.Nodup →
    (∀ Y, Mod (fun j => j ∈ ds) X Y → ∃ v, (results fn tmps).run Tryd.prog Y = .ok v Y ∧ R (.returned v) Y) → LeavesInM G k Tryd.prog fn tmps R (ds.map mark) .returning X
  | [], X, _, _, hR => hR X (Mod.refl _ _)
  | D :: ds, X, hd, hn, hR => by
    have hm := mod_putObj X D (.deferred none)
    refine ⟨by simp, .inl ⟨D, _, rfl, run_takeDeferred (hd D (List.mem_cons_self ..)), leaves_marks ds _ (fun j hj => ?_) (List.nodup_cons.1 hn).2 fun Y hY => hR Y ((hm.mono fun j _ e => by rw [e]; exact List.mem_cons_self ..).trans (hY.mono fun j _ e => List.mem_cons_of_mem _ e))⟩⟩
    have hne : j ≠ D := fun e => (List.nodup_cons.1 hn).1 (e ▸ hj)
    exact (World.putObj_heap_other hne).trans (hd j (List.mem_cons_of_mem _ hj))
end
end Go.Proofs.YtckbckdaffdjmaaDoor

/- Where the program's Union stands. -/
namespace Go.Proofs.YtckbckdaffdjmaaDoor
open Go.RowKit
set_option maxRecDepth 100000
set_option linter.unusedVariables false
set_option linter.unusedSimpArgs false

/-- Between two lists. -/
structure UnB (w X : World) (E p bw ba m : Nat) (W : List UInt64) (ds : List Nat) : Prop where
  bm : BM X p bw ba m W
  h6 : Rw X E 32 [.pointer (some ⟨p, 0, none⟩)]
  df : ∀ D ∈ ds, w.heap.size ≤ D ∧ X.heap[D]? = some (.deferred (some []))
  bel : Below w.heap.size w X
  lo : ∀ k, (k = E ∨ BM.At p bw ba k) → w.heap.size ≤ k
  ne : ¬ BM.At p bw ba E
/-- In the range over one list's runs. -/
structure UnI (w X : World) (E p bw ba m : Nat) (A V : List UInt64) (ds : List Nat) (C p2 bw2 ba2 Z : Nat) (s : List UInt64 × Nat) : Prop where
  eq : s.1 = V
  b : ∃ W', UnB w X E p bw ba m W' ds ∧ ∀ t, Bm.bit W' t = (Bm.bit A t || (decide (t < s.2) && Bm.bit V t))
  v : BM X p2 bw2 ba2 m V
  c : Rw X C 32 [.pointer (some ⟨p2, 0, none⟩)]
  lt : ∀ k, (k = E ∨ BM.At p bw ba k ∨ k = C ∨ BM.At p2 bw2 ba2 k ∨ k ∈ ds) → k < Z
  sep : ∀ k, BM.At p bw ba k → k ≠ C ∧ ¬ BM.At p2 bw2 ba2 k
  le : s.2 ≤ m
  zw : w.heap.size ≤ Z
  sz : Z ≤ X.heap.size
section
variable {w X Y : World} {E p bw ba m C p2 bw2 ba2 Z : Nat} {A V W : List UInt64} {ds : List Nat} {s : List UInt64 × Nat} {F : Nat → Prop}
theorem UnB.step (h : UnB w X E p bw ba m W ds) (hm : Mod F X Y) (hF : ∀ k, F k → w.heap.size ≤ k ∧ k ≠ E ∧ ¬ BM.At p bw ba k ∧ k ∉ ds) : UnB w Y E p bw ba m W ds :=
  ⟨h.bm.mod hm (fun e => (hF _ e).2.2.1 (.inl rfl)) (fun e => (hF _ e).2.2.1 (.inr (.inl rfl))) (fun e => (hF _ e).2.2.1 (.inr (.inr rfl))), h.h6.mod hm (fun e => (hF _ e).2.1 rfl),
    fun D hD => ⟨(h.df D hD).1, (hm.block D (heap_lt (h.df D hD).2) (fun e => (hF D e).2.2.2 hD)).trans (h.df D hD).2⟩, h.bel.trans (hm.below h.bel.size fun k e => (hF k e).1), h.lo, h.ne⟩
theorem UnB.below (h : UnB w X E p bw ba m W ds) (hb : Below X.heap.size X Y) : UnB w Y E p bw ba m W ds := h.step (F := fun _ => False) (Mod.of_below hb) fun _ e => e.elim
theorem UnB.cells (h : UnB w X E p bw ba m W ds) : ∀ k, BM.At p bw ba k → ∃ c t z, X.heap[k]? = some (.cells c t z) := by
  rintro k (rfl | rfl | rfl)
  · exact ⟨_, _, _, h.bm.hs⟩
  · exact ⟨_, _, _, h.bm.hw⟩
  · exact ⟨_, _, _, h.bm.ha⟩
/-- Behind a change of what is made. -/
theorem UnB.chg {W' : List UInt64} (h : UnB w X E p bw ba m W ds) (hb : BM Y p bw ba m W') (hm : Mod (BM.At p bw ba) X Y) : UnB w Y E p bw ba m W' ds :=
  ⟨hb, h.h6.mod hm h.ne, fun D hD => ⟨(h.df D hD).1, (hm.block D (heap_lt (h.df D hD).2) (fun e => by obtain ⟨c, t, z, hc⟩ := h.cells D e; rw [(h.df D hD).2] at hc; cases hc)).trans (h.df D hD).2⟩, h.bel.trans (hm.below h.bel.size fun k e => h.lo k (.inr e)), h.lo, h.ne⟩
theorem UnI.step (h : UnI w X E p bw ba m A V ds C p2 bw2 ba2 Z s) (hm : Mod F X Y) (hF : ∀ k, F k → Z ≤ k) : UnI w Y E p bw ba m A V ds C p2 bw2 ba2 Z s := by
  obtain ⟨W', hb, hbits⟩ := h.b
  have hn : ∀ k, (k = E ∨ BM.At p bw ba k ∨ k = C ∨ BM.At p2 bw2 ba2 k ∨ k ∈ ds) → ¬ F k := fun k e f => by have := h.lt k e; have := hF k f; omega
  refine ⟨h.eq, ⟨W', hb.step hm fun k e => ⟨Nat.le_trans h.zw (hF k e), fun a => hn k (.inl a) e, fun a => hn k (.inr (.inl a)) e, fun a => hn k (.inr (.inr (.inr (.inr a)))) e⟩, hbits⟩, h.v.mod hm (hn _ (.inr (.inr (.inr (.inl (.inl rfl)))))) (hn _ (.inr (.inr (.inr (.inl (.inr (.inl rfl))))))) (hn _ (.inr (.inr (.inr (.inl (.inr (.inr rfl))))))), h.c.mod hm (hn _ (.inr (.inr (.inl rfl)))), h.lt, h.sep, h.le, h.zw, Nat.le_trans h.sz hm.size⟩
theorem UnI.below (h : UnI w X E p bw ba m A V ds C p2 bw2 ba2 Z s) (hb : Below X.heap.size X Y) : UnI w Y E p bw ba m A V ds C p2 bw2 ba2 Z s := h.step (F := fun _ => False) (Mod.of_below hb) fun _ e => e.elim
/-- Behind a run. -/
theorem UnI.next {W : List UInt64} {f c : Nat} (h : UnI w X E p bw ba m A V ds C p2 bw2 ba2 Z s) (hW : UnB w X E p bw ba m W ds) (hbits : ∀ t, Bm.bit W t = (Bm.bit A t || (decide (t < s.2) && Bm.bit V t)))
    (h1 : s.2 ≤ f) (h2 : f + c ≤ m) (hno : ∀ t, s.2 ≤ t → t < f → Bm.bit V t = false) (hall : ∀ t, f ≤ t → t < f + c → Bm.bit V t = true)
    (hb : BM Y p bw ba m (Bm.setW m W f (f + c) true)) (hm : Mod (BM.At p bw ba) X Y) : UnI w Y E p bw ba m A V ds C p2 bw2 ba2 Z (V, f + c) := by
  refine ⟨rfl, ⟨_, hW.chg hb hm, fun t => ?_⟩, h.v.mod hm (fun e => (h.sep _ e).2 (.inl rfl)) (fun e => (h.sep _ e).2 (.inr (.inl rfl))) (fun e => (h.sep _ e).2 (.inr (.inr rfl))), h.c.mod hm (fun e => (h.sep _ e).1 rfl), h.lt, h.sep, h2, h.zw, Nat.le_trans h.sz hm.size⟩
  rw [Bm.setW_bit hW.bm.ok h2]
  show _ = (Bm.bit A t || (decide (t < f + c) && Bm.bit V t))
  by_cases e : f ≤ t ∧ t < f + c
  · rw [if_pos e, hall t e.1 e.2, decide_eq_true e.2]; simp
  · rw [if_neg e, hbits t]
    by_cases e1 : t < s.2
    · rw [decide_eq_true e1, decide_eq_true (by omega)]
    · rw [decide_eq_false e1]
      by_cases e2 : t < f
      · rw [hno t (by omega) e2]; simp
      · rw [decide_eq_false (by omega)]
theorem UnI.done (h : UnI w X E p bw ba m A V ds C p2 bw2 ba2 Z s) (hA : Bm.Ok m A) (hno : ∀ t, s.2 ≤ t → t < m → Bm.bit V t = false) : UnB w X E p bw ba m (Bm.mer A V) ds := by
  obtain ⟨W', hb, hbits⟩ := h.b
  have : W' = Bm.mer A V := hb.bm.ok.ext (Bm.mer_ok hA h.v.ok) fun t => by
    rw [hbits t, Bm.mer_bit hA h.v.ok]
    by_cases e : t < s.2
    · simp [e]
    · have : Bm.bit V t = false := by
        by_cases e2 : t < m
        · exact hno t (by omega) e2
        · exact h.v.ok.tail t (by omega)
      rw [this]; simp
  rw [← this]; exact hb
end
end Go.Proofs.YtckbckdaffdjmaaDoor

/- The program's Union. (Printed once by a small program.) -/
namespace Go.Proofs.YtckbckdaffdjmaaDoor
open Go.RowKit
attribute [local go_sem] Oper.semAt_some
set_option maxRecDepth 100000
set_option linter.unusedVariables false
set_option linter.unusedSimpArgs false

set_option maxHeartbeats 32000000 in
theorem union_calls {w : World} {n : Int} (hn : (Lit.int .i64 n).wf = true) {v : Value} {Vs : List (List UInt64)} (hs : SU w v Vs) (hT : Tz w) : Calls Tryd.prog 21 #[.int .i64 n, v] w (UnP w n Vs) := by
  have HS := Lib.hid hs
  have HT := Lib.hid hT
  obtain ⟨q, c, hse, hsl, -⟩ := hs
  obtain ⟨M, hM⟩ : ∃ M, M = Vs.length := ⟨_, rfl⟩
  have HM := Lib.hid hM
  rw [← hM] at hse hsl
  subst hse
  clear hM hT
  by_cases hr : n < 1 ∨ 65536 < n
  · have hne := (new_err (w := w) hn hr)
    have HE := Lib.hid hne
    have HR : Hid (Bm.unErr n Vs = 1) := Lib.hid (by unfold Bm.unErr; rw [if_pos hr])
    clear hne hr
    (refine callsIn_wide (n := 0).1 (callsIn_of_wp_marks Tryd.func21 rfl trivial (wpIn_wide.2 ?_) rfl); simp only [Tryd.ntmps21, List.size_toArray, List.length_cons, List.length_nil, Nat.reduceAdd, Nat.reduceSub, Array.replicate_succ, Array.replicate_zero, List.push_toArray, List.append_toArray, List.nil_append, List.cons_append])
    go_wp2_with (first | (go_at_call 56; refine HE.out.out.mono ?_; rintro e w1 ⟨rfl, hb1⟩) | fail)
    refine ⟨_, results_tmp2 rfl _ _ _, .slice none 0 0, by rw [HR.out]; rfl, ?_, hb1.trans ((below_alloc1 _ _).mono hb1.size)⟩
    rw [Bm.unR, HR.out, if_neg (by decide)]
    exact OU.nil_ _ _
  · obtain ⟨m, rfl⟩ : ∃ m : Nat, n = m := ⟨n.toNat, by omega⟩
    have h1 : 1 ≤ m := by omega
    have h2 : m ≤ 65536 := by omega
    have HUE : Hid (Bm.unErr (m : Int) Vs = Bm.unE m Vs) := Lib.hid (by unfold Bm.unErr; rw [if_neg hr, Int.toNat_natCast])
    have hne := new_calls (w := w) (n := m) h1 h2
    have HE := Lib.hid hne
    have H12 := Lib.hid (And.intro h1 h2)
    have hM9 : (M : Int) ≤ 5864062014805 := by omega
    clear hne hr h1 h2 hn
    (refine callsIn_wide (n := 0).1 (callsIn_of_wp_marks Tryd.func21 rfl trivial (wpIn_wide.2 ?_) rfl); simp only [Tryd.ntmps21, List.size_toArray, List.length_cons, List.length_nil, Nat.reduceAdd, Nat.reduceSub, Array.replicate_succ, Array.replicate_zero, List.push_toArray, List.append_toArray, List.nil_append, List.cons_append])
    go_upto_region 4 with (first
      | (go_at_call 56
         refine HE.out.mono ?_
         rintro e w1 ⟨p, bw, ba, rfl, hbm, hp1, hp2, hp3, hb1⟩
         have HBM := Lib.hid hbm
         have HB1 := Lib.hid hb1
         have HP := Lib.hid (And.intro hp1 (And.intro hp2 hp3))
         clear hbm hb1 hp1 hp2 hp3)
      | fail)
    obtain ⟨w2, hw2⟩ : ∃ w2, w2 = w1.alloc (.cells #[.pointer (some ⟨p, 0, none⟩)] 32) := ⟨_, rfl⟩
    obtain ⟨E, hE⟩ : ∃ E, E = w1.heap.size := ⟨_, rfl⟩
    have hr6 : Rw w2 E 32 [.pointer (some ⟨p, 0, none⟩)] := by rw [hw2, hE]; exact heap_new _ _ _ rfl
    have hb2 : Below w1.heap.size w1 w2 := by rw [hw2]; exact below_alloc1 _ _
    have hub : UnB w w2 E p bw ba m (Bm.unAll m (Vs.take 0)) [] := by
      obtain ⟨p1, p2, p3⟩ := HP.out
      have l1 := heap_lt HBM.out.hs
      have l2 := heap_lt HBM.out.hw
      have l3 := heap_lt HBM.out.ha
      have s1 := HB1.out.size
      refine ⟨HBM.out.below hb2, hr6, fun D hD => (by cases hD), HB1.out.trans (hb2.mono s1), ?_, ?_⟩
      · rintro k (rfl | rfl | rfl | rfl) <;> omega
      · rintro (e | e | e) <;> omega
    have HUB := Lib.hid hub
    rw [← hw2, ← hE]
    clear hw2 hE hr6 hb2 hub HBM HP
    go_wp2_with fail
    refine wp_loop_count (fun i a X => ∃ ds : List Nat, Is (fun U => ⟨#[.int .i64 m, U 1, U 2, U 3, .slice none 0 0, .int .i64 0, .pointer (some ⟨E, 0, none⟩), U 7, U 8, U 9, U 10, U 11, U 12, U 13, U 14, U 15, U 16, U 17, U 18, U 19, U 20, U 21, .slice q M c, .int .i64 M, .int .i64 i, U 25, U 26, U 27, U 28, U 29, U 30, U 31, U 32, U 33, U 34, U 35, U 36, U 37, U 38, U 39, U 40, U 41, U 42, U 43, U 44, U 45, U 46, U 47], ds.map mark⟩) a ∧ ds.Nodup ∧ (∀ (j : Nat) (U : List UInt64), j < i → Vs[j]? = some U → Bm.validE m U = 0) ∧ UnB w X E p bw ba m (Bm.unAll m (Vs.take i)) ds) M ⟨[], isUd (fun U => ⟨#[.int .i64 m, U 1, U 2, U 3, .slice none 0 0, .int .i64 0, .pointer (some ⟨E, 0, none⟩), U 7, U 8, U 9, U 10, U 11, U 12, U 13, U 14, U 15, U 16, U 17, U 18, U 19, U 20, U 21, .slice q M c, .int .i64 M, .int .i64 0, U 25, U 26, U 27, U 28, U 29, U 30, U 31, U 32, U 33, U 34, U 35, U 36, U 37, U 38, U 39, U 40, U 41, U 42, U 43, U 44, U 45, U 46, U 47], ([] : List Nat).map mark⟩) rfl, List.nodup_nil, fun j U hj => absurd hj (Nat.not_lt_zero _), HUB.out⟩ ?_ ?_
    · clear HUB HE HB1
      rintro i a X hi ⟨ds, hU, hnd, hval, hub⟩
      obtain ⟨U, rfl⟩ := hU.out
      obtain ⟨q', c', e', -, hr⟩ := HS.out.below hub.bel
      simp only [Value.slice.injEq] at e'
      obtain ⟨rfl, -, rfl⟩ := e'
      obtain ⟨V, hV⟩ : ∃ V, Vs[i]? = some V := ⟨_, List.getElem?_eq_getElem (by rw [← HM.out]; exact hi)⟩
      obtain ⟨g, off, u, rfl, hg, hcell, hru⟩ := hr i V hV
      have hokA : Bm.Ok m (Bm.unAll m (Vs.take i)) := hub.bm.ok
      have hi' : (i : Int) < (M : Int) := by exact_mod_cast hi
      have hi0 : (0 : Int) ≤ (i : Int) := Int.natCast_nonneg i
      have HND := Lib.hid hnd
      have HVAL := Lib.hid hval
      have HVV := Lib.hid hV
      have HUB := Lib.hid hub
      have HRU := Lib.hid hru
      have HOKA := Lib.hid hokA
      obtain ⟨pu, cu, eu⟩ := hru.form
      generalize V.length = LV at eu
      subst eu
      clear hU hval hub hr hV hru hokA hnd
      by_cases hv : Bm.validE m V = 0
      · have hfr := from_calls HRU.out (Bm.ok_of_valid H12.out.1 H12.out.2 hv)
        have HFR := Lib.hid hfr
        have HV0 := Lib.hid hv
        clear hv hfr
        go_upto_region 8 with (first
          | (go_at_call 54
             refine HFR.out.mono ?_
             clear HFR
             rintro e X2 ⟨p2, bw2, ba2, rfl, hbm2, hq1, hq2, hq3, hb2⟩
             have HBM2 := Lib.hid hbm2
             have HB2 := Lib.hid hb2
             have HQ := Lib.hid (And.intro hq1 (And.intro hq2 hq3))
             clear hbm2 hb2 hq1 hq2 hq3)
          | fail)
        clear hcell
        go_wp2_with (first
          | (go_at_call 38; refine runs_calls.mono ?_; rintro e X3 ⟨C, rfl, hC, hrc, hb3⟩
             have HRC := Lib.hid hrc
             have HB3 := Lib.hid hb3
             have HHC := Lib.hid hC
             clear hrc hb3 hC)
          | fail)
        have hun : UnI w X3 E p bw ba m (Bm.unAll m (Vs.take i)) V ds C p2 bw2 ba2 X3.heap.size (V, 0) := by
          obtain ⟨q1, q2, q3⟩ := HQ.out
          have hc := HHC.out
          have lC := heap_lt HRC.out
          have l1 := heap_lt HBM2.out.hs
          have l2 := heap_lt HBM2.out.hw
          have l3 := heap_lt HBM2.out.ha
          have k1 := heap_lt HUB.out.bm.hs
          have k2 := heap_lt HUB.out.bm.hw
          have k3 := heap_lt HUB.out.bm.ha
          have kE := heap_lt HUB.out.h6
          have s2 := HB2.out.size
          have s3 := HB3.out.size
          have hbb : Below X.heap.size X X3 := HB2.out.trans (HB3.out.mono s2)
          have kd : ∀ k, k ∈ ds → k < X.heap.size := fun k hk => heap_lt (HUB.out.df k hk).2
          refine ⟨rfl, ⟨_, HUB.out.below hbb, fun t => by simp⟩, HBM2.out.below HB3.out, HRC.out, ?_, ?_, Nat.zero_le _, (HUB.out.below hbb).bel.size, Nat.le_refl _⟩
          · rintro k (rfl | (rfl | rfl | rfl) | rfl | (rfl | rfl | rfl) | hk)
            any_goals omega
            have := kd k hk; omega
          · rintro k (rfl | rfl | rfl)
            all_goals exact ⟨by omega, by rintro (e | e | e) <;> omega⟩
        have HUN := Lib.hid hun
        clear hun HBM2 HB2 HQ HRC HB3 HHC
        refine wp_range (a₁ := ?fr) (s0 := (V, 0)) (hg := rfl) (eg := fun args w => by kernel_rfl) (hc := runs_iter (p := p2) (bw := bw2) (ba := ba2) (n := m) (C := C) (V := V) H12.out.2) (hps := fun _ => rfl) (hT := fun _ _ h => KeepsOthers.of_below h)
          (hKt := fun _ _ => trivial) (hKb := fun _ _ _ _ _ _ _ => trivial) (I := fun s A => UnI w A E p bw ba m (Bm.unAll m (Vs.take i)) V ds C p2 bw2 ba2 X3.heap.size s) (Ix := fun _ _ => False) ?hIT ?hIxT ?hI ?hIx ?h0 ?hIv (hassign := ?assign) (hbody := ?body) (hdone := ?done) (hstop := ?stop)
        case assign =>
          intro l x A K hK
          simp only [Rn.enc]
          gi_wp2
          exact hK
        case hIT => exact fun s A B h ht => h.below ht
        case hIxT => exact fun _ _ _ h _ => h
        case hI =>
          intro s A l o o' h hl ho hc
          exact h.step (mod_putObj _ _ _) fun k e => by subst e; exact hl
        case hIx => exact fun _ _ _ _ _ h _ _ _ => h
        case h0 => exact fun W1 hb => HUN.out.below hb
        case hIv =>
          intro s A h
          obtain ⟨W', hb, -⟩ := h.b
          exact ⟨by rw [h.eq]; exact h.v, h.c, HT.out.below hb.bel⟩
        case body =>
          rintro l ⟨Ws, pl⟩ ⟨f, cn⟩ A hun ⟨hx, hxe⟩
          obtain rfl : Ws = V := hun.eq
          simp only at hx hxe
          have hxn : pl ≤ f ∧ f < m ∧ Bm.bit Ws f = true ∧ ∀ t, pl ≤ t → t < f → Bm.bit Ws t = false := by
            rcases hx with ⟨h1, -⟩ | ⟨j, h1, h2, h3, h4, h5⟩
            · omega
            · obtain rfl : f = j := by omega
              exact ⟨h2, h3, h4, h5⟩
          obtain ⟨hr1, hr2, hr3, hr4, -⟩ := Bm.runE_is hxn.2.1 hxn.2.2.1
          rw [← hxe] at hr1 hr2 hr3 hr4
          obtain ⟨W', hb, hbits⟩ := hun.b
          have hset := setrange_calls hb.bm (f := f) (c := cn) hr2
          have hh6 := hb.h6
          have c6 := hh6.cell (i := 0) rfl
          have HSET := Lib.hid hset
          have HB := Lib.hid hb
          have HBITS := Lib.hid hbits
          have HUNA := Lib.hid hun
          have HXN := Lib.hid hxn
          have HR := Lib.hid (And.intro hr2 hr3)
          have hx0 : (0 : Int) ≤ (f : Int) := Int.natCast_nonneg f
          have hc0 : (0 : Int) ≤ (cn : Int) := Int.natCast_nonneg cn
          clear hx hxe hxn hr1 hr2 hr3 hr4 hb hbits hset hh6 hun
          gi_wp2_with (first
            | (refine ⟨trivial, rfl, ?_⟩
               gi_at_call 67
               refine callIn_of_call HSET.out ?_
               clear HSET
               rintro e A5 ⟨rfl, hbm5, hm5⟩
               have HBM5 := Lib.hid hbm5
               have HM5 := Lib.hid hm5
               clear hbm5 hm5)
            | fail)
          exact ⟨KeepsOthers.of_mod HM5.out HB.out.cells, trivial, (Ws, f + cn), rfl, HUNA.out.next HB.out HBITS.out HXN.out.1 HR.out.1 HXN.out.2.2.2 HR.out.2 HBM5.out HM5.out⟩
        case done =>
          rintro D' ⟨Ws, pl⟩ A hD' hun hfin hdef
          obtain rfl : Ws = V := hun.eq
          have hf := hfin
          unfold Al.Fin at hf
          simp only at hf
          have hno : ∀ t, pl ≤ t → t < m → Bm.bit Ws t = false := by
            rcases hf with ⟨-, h2⟩ | ⟨j, h1, -⟩
            · exact h2
            · omega
          have hub5 := hun.done HOKA.out hno
          rw [← Bm.unAll_next HVV.out] at hub5
          have HUB5 := Lib.hid hub5
          have HUNA := Lib.hid hun
          have HDF := Lib.hid hdef
          have HDL := Lib.hid hD'
          clear hf hno hun hfin hdef hD' hub5
          go_wp2_with fail
          refine ⟨D' :: ds, isUd (fun U => ⟨#[.int .i64 m, U 1, U 2, U 3, .slice none 0 0, .int .i64 0, .pointer (some ⟨E, 0, none⟩), U 7, U 8, U 9, U 10, U 11, U 12, U 13, U 14, U 15, U 16, U 17, U 18, U 19, U 20, U 21, .slice (some ⟨g, off, none⟩) M c, .int .i64 M, .int .i64 (i + 1 : Nat), U 25, U 26, U 27, U 28, U 29, U 30, U 31, U 32, U 33, U 34, U 35, U 36, U 37, U 38, U 39, U 40, U 41, U 42, U 43, U 44, U 45, U 46, U 47], (D' :: ds).map mark⟩) rfl, List.nodup_cons.2 ⟨fun hm => by have := HUNA.out.lt D' (by simp [hm]); have := HDL.out; omega, HND.out⟩, fun j U hj hu => ?_, HUB5.out.bm, HUB5.out.h6, fun j hj => ?_, HUB5.out.bel, HUB5.out.lo, HUB5.out.ne⟩
          · rcases Nat.lt_or_ge j i with h | h
            · exact HVAL.out j U h hu
            · obtain rfl : j = i := by omega
              rw [HVV.out] at hu
              injection hu with hu
              subst hu
              exact HV0.out
          · rcases List.mem_cons.1 hj with rfl | hj
            · exact ⟨by have := HUNA.out.zw; have := HDL.out; omega, HDF.out⟩
            · exact HUB5.out.df j hj
        case stop => exact fun _ _ _ _ h _ => h.elim
      · have hfr := from_err2 H12.out.1 H12.out.2 HRU.out hv
        have hz : ((Bm.validE m V : Nat) : Int) ≠ 0 := by omega
        have HE2 : Hid (Bm.unErr (m : Int) Vs = Bm.validE m V ∧ Bm.validE m V ≠ 0) := Lib.hid ⟨HUE.out.trans (Bm.unE_at HVAL.out HVV.out hv), hv⟩
        have HFR := Lib.hid hfr
        obtain ⟨Er, hEr⟩ : ∃ Er, Er = Bm.validE m V := ⟨_, rfl⟩
        rw [← hEr] at HFR HE2 hz
        have hzb : (((Er : Nat) : Int) != 0) = true := bne_iff_ne.2 hz
        clear hv hEr hfr hz
        go_wp2_with (first
          | (go_at_call 54
             refine HFR.out.out.mono ?_
             clear HFR
             rintro e X2 ⟨rfl, hb2⟩
             have HB2 := Lib.hid hb2
             clear hb2)
          | fail)
        have hub2 := HUB.out.below HB2.out
        refine leaves_marks ds _ (fun D hD => (hub2.df D hD).2) HND.out fun Z hZ => ⟨_, results_tmp2 rfl _ _ _, .slice none 0 0, by rw [HE2.out.1]; rfl, ?_, hub2.bel.trans (hZ.below hub2.bel.size fun k e => (hub2.df k e).1)⟩
        rw [Bm.unR, HE2.out.1, if_neg HE2.out.2]
        exact OU.nil_ _ _
    · clear HUB HE HB1
      rintro a X ⟨ds, hU, hnd, hval, hub⟩
      obtain ⟨U, rfl⟩ := hU.out
      have hall : ∀ (j : Nat) (U : List UInt64), Vs[j]? = some U → Bm.validE m U = 0 := fun j U hj => hval j U (by rw [HM.out]; exact (List.getElem?_eq_some_iff.1 hj).1) hj
      rw [HM.out, List.take_length] at hub
      have hwd := words_calls hub.bm
      have c6 := hub.h6.cell (i := 0) rfl
      have HW := Lib.hid hwd
      have HZ : Hid (Bm.unErr (m : Int) Vs = 0) := Lib.hid (HUE.out.trans (Bm.unE_zero hall))
      have HUB := Lib.hid hub
      have HND := Lib.hid hnd
      clear hU hval hall hwd hub hnd
      go_wp2_with (first
        | (go_at_call 32
           refine HW.out.mono ?_
           rintro e X2 ⟨v', rfl, hnew⟩
           have HN := Lib.hid hnew
           clear hnew)
        | fail)
      have hub2 := HUB.out.below HN.out.bel
      have hlen : (Bm.unAll m Vs).length ≤ 17592186044416 := by rw [HUB.out.bm.ok.len]; unfold Bm.room; have := HUB.out.bm.ok.max; omega
      have hou := (HN.out.ou hlen).more HUB.out.bel.size
      refine leaves_marks ds _ (fun D hD => (hub2.df D hD).2) HND.out fun Z hZ => ⟨_, results_tmp2 rfl _ _ _, v', by rw [HZ.out]; rfl, ?_, hub2.bel.trans (hZ.below hub2.bel.size fun k e => (hub2.df k e).1)⟩
      rw [Bm.unR, if_pos HZ.out, Int.toNat_natCast]
      exact hou.mod hZ fun k ek hk => by
        obtain ⟨g, hg1, hg2, -⟩ := HN.out
        subst hg1
        injection ek with ek
        subst ek
        have h1 := (hub2.df _ hk).2
        have h2 : X2.heap[g]? = some (.cells _ _ (0, 0)) := hg2
        rw [h1] at h2; cases h2
end Go.Proofs.YtckbckdaffdjmaaDoor

/- The statement BitmapUnions: the copies. -/
namespace Go.Proofs.YtckbckdaffdjmaaDoor
open Go.RowKit
set_option maxRecDepth 100000
set_option linter.unusedVariables false
set_option linter.unusedSimpArgs false

/-- Behind i copies: the row v, from block B on. -/
structure CpI (w X : World) (q : Option Addr) (Vs : List (List UInt64)) (i : Nat) (v : Value) (K : List Value) : Prop where
  vu : VU w.heap.size X v K
  len : K.length = i
  cop : ∀ (j : Nat) (V : List UInt64), j < i → Vs[j]? = some V → ∃ g off u x, q = some ⟨g, off, none⟩ ∧ g < w.heap.size ∧ w.cell? ⟨g, off + j, none⟩ = some u ∧ RU w u V ∧ K[j]? = some x ∧ Cop w.heap.size X u x V ∧ ∀ k, x.ownBlock = some k → v.ownBlock ≠ some k ∧ w.heap.size ≤ k ∧ k < X.heap.size
  bel : Below w.heap.size w X
theorem CpI.next {w X X1 X2 X3 : World} {g off i : Nat} {Vs : List (List UInt64)} {v v' u x : Value} {K : List Value} {V : List UInt64} (h : CpI w X (some ⟨g, off, none⟩) Vs i v K) (hV : Vs[i]? = some V) (hg : g < w.heap.size) (hcell : w.cell? ⟨g, off + i, none⟩ = some u) (hru : RU w u V) (hl : V.length + 3 ≤ 17592186044416)
    (hc : Cop X.heap.size X1 u x V) (h1 : Below X.heap.size X X1) (h2 : Below X1.heap.size X1 X2) (hv : VU w.heap.size X3 v' (K ++ [x])) (hg3 : X2.grownBy X3 v.ownBlock) (hat : v'.ownBlock = v.ownBlock ∨ v'.ownBlock = some X2.heap.size) :
    CpI w X3 (some ⟨g, off, none⟩) Vs (i + 1) v' (K ++ [x]) := by
  have hs0 := h.bel.size
  have hs1 := h1.size
  have hs2 := h2.size
  have hvb : ∀ k, v.ownBlock = some k → w.heap.size ≤ k ∧ k < X.heap.size := fun k e => h.vu.lt k e
  have hm3 : Mod (fun k => v.ownBlock = some k) X2 X3 := Mod.grown hg3 fun k e _ => e
  have hs3 := hm3.size
  have hm13 : Mod (fun k => v.ownBlock = some k) X1 X3 := (Mod.of_below h2).trans hm3
  have hm03 : Mod (fun k => v.ownBlock = some k) X X3 := (Mod.of_below h1).trans hm13
  have hxb : ∀ k, x.ownBlock = some k → X.heap.size ≤ k ∧ k < X1.heap.size := fun k e => (hc.ou hl).lt k e
  have hv' : ∀ k, v'.ownBlock = some k → v.ownBlock = some k ∨ k = X2.heap.size := fun k e => by
    rcases hat with a | a
    · exact .inl (a ▸ e)
    · rw [a] at e; injection e with e; exact .inr e.symm
  refine ⟨hv, by rw [List.length_append, h.len]; rfl, fun j U hj hU => ?_, h.bel.trans (hm03.below h.bel.size fun k e => (hvb k e).1)⟩
  rcases Nat.lt_or_ge j i with hji | hji
  · obtain ⟨g2, off2, u2, x2, a1, a2, a3, a4, a5, a6, a7⟩ := h.cop j U hji hU
    refine ⟨g2, off2, u2, x2, a1, a2, a3, a4, by rw [List.getElem?_append_left (by rw [h.len]; exact hji)]; exact a5, a6.mod hm03 (fun k e e' => (a7 k e).1 e'), fun k e => ⟨fun e' => ?_, (a7 k e).2.1, Nat.lt_of_lt_of_le (a7 k e).2.2 hm03.size⟩⟩
    rcases hv' k e' with b | b
    · exact (a7 k e).1 b
    · have := (a7 k e).2.2; omega
  · have : j = i := by omega
    subst this
    rw [hV] at hU
    injection hU with hU
    subst hU
    refine ⟨g, off, u, x, rfl, hg, hcell, hru, by rw [List.getElem?_append_right (by rw [h.len]; omega), h.len, Nat.sub_self]; rfl, ?_, fun k e => ⟨fun e' => ?_, by have := hxb k e; omega, by have := hxb k e; omega⟩⟩
    · have hc' := hc.mod hm13 (fun k e e' => by have h1 := (hxb k e).1; have h2 := (hvb k e').2; omega)
      rcases hc' with b | ⟨a, c, g2, b1, b2, b3, b4⟩
      · exact .inl b
      · exact .inr ⟨a, c, g2, b1, b2, by omega, b4⟩
    · rcases hv' k e' with b | b
      · have h1 := (hxb k e).1; have h2 := (hvb k b).2; omega
      · have := (hxb k e).2; omega
/-- The copies, seen as lists that go in. -/
theorem CpI.su {w X : World} {q : Option Addr} {Vs : List (List UInt64)} {v : Value} {K : List Value} (h : CpI w X q Vs Vs.length v K) (hl : Vs.length ≤ 5864062014805) (hV : ∀ V ∈ Vs, V.length + 3 ≤ 17592186044416) : SU X v Vs := by
  obtain ⟨p, c, e⟩ := h.vu.form
  refine ⟨p, c, by rw [e, h.len], hl, fun i V hi => ?_⟩
  have hil := (List.getElem?_eq_some_iff.1 hi).1
  obtain ⟨g, off, u, x, a1, a2, a3, a4, a5, a6, a7⟩ := h.cop i V hil hi
  obtain ⟨g2, c2, e2, lg, cg⟩ := h.vu.get a5
  rw [e] at e2
  simp only [Value.slice.injEq] at e2
  exact ⟨g2, 0, x, e2.1, lg, by rw [Nat.zero_add]; exact cg, a6.ru (hV V (List.mem_of_getElem? hi))⟩
end Go.Proofs.YtckbckdaffdjmaaDoor

/- The statement BitmapUnions: the walk. -/
namespace Go.Proofs.YtckbckdaffdjmaaDoor
open Go.RowKit
set_option maxRecDepth 100000
set_option linter.unusedVariables false
set_option linter.unusedSimpArgs false

theorem unR_len {n : Int} {Vs : List (List UInt64)} : (Bm.unR n Vs).length ≤ 1024 := by
  unfold Bm.unR
  by_cases h : Bm.unErr n Vs = 0
  · rw [if_pos h]
    unfold Bm.unErr at h
    by_cases hr : n < 1 ∨ 65536 < n
    · rw [if_pos hr] at h; cases h
    · have hl : ∀ (l : List (List UInt64)) (Z : List UInt64), (l.foldl Bm.mer Z).length = Z.length := by
        intro l
        induction l with
        | nil => intro Z; rfl
        | cons V r ih => intro Z; rw [List.foldl_cons, ih]; exact Bm.merTo_length _ _ _
      unfold Bm.unAll
      rw [hl, List.length_replicate]
      unfold Bm.room
      omega
  · rw [if_neg h]; simp
set_option maxHeartbeats 32000000 in
theorem unions_calls {w : World} {n : Int} (hn : (Lit.int .i64 n).wf = true) {v : Value} {Vs : List (List UInt64)} (hs : SU w v Vs) (hVs : ∀ V ∈ Vs, V.length ≤ 17592186043904) (hT : Tz w) : Pur Tryd.prog 4 #[.int .i64 n, v] w (.bool true) := by
  unfold Pur
  have HS := Lib.hid hs
  have HT := Lib.hid hT
  have HN := Lib.hid hn
  have HVS := Lib.hid hVs
  obtain ⟨q, c, hse, hsl, hsr⟩ := hs
  have HSR := Lib.hid hsr
  obtain ⟨M, hM⟩ : ∃ M, M = Vs.length := ⟨_, rfl⟩
  have HM := Lib.hid hM
  rw [← hM] at hse hsl
  subst hse
  have hM9 : (M : Int) ≤ 5864062014805 := by omega
  have HSL := Lib.hid hsl
  clear hM hT hn hVs hsr hsl
  go_enter Tryd.func4, Tryd.ntmps4
  go_wp2_with fail
  refine wp_loop_count (fun i a X => ∃ vi K, Is (fun U => ⟨#[.int .i64 n, .slice q M c, U 2, U 3, .bool false, vi, .int .i64 i, U 7, U 8, U 9, U 10, U 11, U 12, U 13, U 14, U 15, U 16, U 17, U 18, U 19, U 20, U 21, U 22, U 23, U 24, U 25, U 26, U 27, U 28, U 29, U 30, U 31, U 32, U 33, U 34, U 35, U 36, U 37, U 38, U 39, U 40, U 41, U 42, U 43, U 44, U 45, U 46, U 47, U 48, U 49, U 50, U 51, U 52, U 53, U 54, U 55, U 56, U 57, U 58, U 59, U 60, U 61, U 62, U 63, U 64, U 65, U 66, U 67, U 68, U 69, U 70, U 71, U 72, U 73, U 74, U 75, U 76, U 77, U 78, U 79, U 80], []⟩) a ∧ CpI w X q Vs i vi K) M ⟨.slice none 0 0, [], isU (fun U => ⟨#[.int .i64 n, .slice q M c, U 2, U 3, .bool false, .slice none 0 0, .int .i64 0, U 7, U 8, U 9, U 10, U 11, U 12, U 13, U 14, U 15, U 16, U 17, U 18, U 19, U 20, U 21, U 22, U 23, U 24, U 25, U 26, U 27, U 28, U 29, U 30, U 31, U 32, U 33, U 34, U 35, U 36, U 37, U 38, U 39, U 40, U 41, U 42, U 43, U 44, U 45, U 46, U 47, U 48, U 49, U 50, U 51, U 52, U 53, U 54, U 55, U 56, U 57, U 58, U 59, U 60, U 61, U 62, U 63, U 64, U 65, U 66, U 67, U 68, U 69, U 70, U 71, U 72, U 73, U 74, U 75, U 76, U 77, U 78, U 79, U 80], []⟩) rfl, World.ownsRow_nil w _ _ 1, rfl, fun j V hj => absurd hj (Nat.not_lt_zero _), Below.refl _ _⟩ ?_ ?_
  · rintro i a X hi ⟨vi, K, hU, hcp⟩
    obtain ⟨U, rfl⟩ := hU.out
    obtain ⟨V, hV⟩ : ∃ V, Vs[i]? = some V := ⟨_, List.getElem?_eq_getElem (by rw [← HM.out]; exact hi)⟩
    obtain ⟨g, off, u, rfl, hg, hcell, hru⟩ := HSR.out i V hV
    have hVl := HVS.out V (List.mem_of_getElem? hV)
    have hcc := copied_calls (hru.below (hcp.bel.mono (Nat.le_refl _))) (by omega)
    have hcx := ((bcell hcp.bel).1 g (off + i) hg).trans hcell
    have hgx : g < X.heap.size := Nat.lt_of_lt_of_le hg hcp.bel.size
    obtain ⟨pu, cu, eu⟩ := hru.form
    obtain ⟨LV, hLV⟩ : ∃ LV, LV = V.length := ⟨_, rfl⟩
    rw [← hLV] at eu
    subst eu
    have hi' : (i : Int) < (M : Int) := by exact_mod_cast hi
    have hi0 : (0 : Int) ≤ (i : Int) := Int.natCast_nonneg i
    have HCC := Lib.hid hcc
    have HCP := Lib.hid hcp
    have HVV := Lib.hid (And.intro hV (And.intro hg (And.intro hcell (And.intro hru hVl))))
    clear hU hV hg hcell hru hVl hcc hcp hLV
    go_wp2_with (first
      | (go_at_call 19
         refine HCC.out.mono ?_
         clear HCC
         rintro e X1 ⟨x, rfl, hcop, hb1⟩
         obtain ⟨px, cx, ex⟩ := (hcop.ru (by have := HVV.out.2.2.2.2; omega)).form
         obtain ⟨Lx, hLx⟩ : ∃ Lx, Lx = V.length := ⟨_, rfl⟩
         rw [← hLx] at ex
         subst ex
         have HCOP := Lib.hid hcop
         have HB1 := Lib.hid hb1
         clear hcop hb1 hLx)
      | (at_builtin
         refine wpList_append_VU (v := vi) (B := w.heap.size) (vs := K) rfl (.tmp 22) (.tmp 28) rfl rfl X1.heap.size rfl rfl (HCP.out.vu.mod (F := fun _ => False) (Mod.of_below (HB1.out.trans ((below_alloc1 X1 _).mono HB1.out.size))) (fun _ _ => id)) (cell_one _ _ _) rfl (by have := HCP.out.len; have := HSL.out; omega) (Nat.le_trans HCP.out.bel.size (Nat.le_trans HB1.out.size (below_alloc1 X1 _).size)) ?_
         intro v2 X3 hv2 hg2 hat2
         have HNX := Lib.hid (HCP.out.next HVV.out.1 HVV.out.2.1 HVV.out.2.2.1 HVV.out.2.2.2.1 (by have := HVV.out.2.2.2.2; omega) HCOP.out HB1.out (below_alloc1 X1 _) hv2 hg2 hat2)
         clear hv2 hg2 hat2)
      | fail)
    exact ⟨v2, _, isU (fun U => ⟨#[.int .i64 n, .slice (some ⟨g, off, none⟩) M c, U 2, U 3, .bool false, v2, .int .i64 (i + 1 : Nat), U 7, U 8, U 9, U 10, U 11, U 12, U 13, U 14, U 15, U 16, U 17, U 18, U 19, U 20, U 21, U 22, U 23, U 24, U 25, U 26, U 27, U 28, U 29, U 30, U 31, U 32, U 33, U 34, U 35, U 36, U 37, U 38, U 39, U 40, U 41, U 42, U 43, U 44, U 45, U 46, U 47, U 48, U 49, U 50, U 51, U 52, U 53, U 54, U 55, U 56, U 57, U 58, U 59, U 60, U 61, U 62, U 63, U 64, U 65, U 66, U 67, U 68, U 69, U 70, U 71, U 72, U 73, U 74, U 75, U 76, U 77, U 78, U 79, U 80], []⟩) rfl, HNX.out⟩
  · rintro a w3 ⟨vi, K, hU, hcp⟩
    obtain ⟨U, rfl⟩ := hU.out
    rw [HM.out] at hcp
    have hlv : ∀ V ∈ Vs, V.length + 3 ≤ 17592186044416 := fun V h => by have := HVS.out V h; omega
    have hin := hcp.su (by rw [← HM.out]; exact HSL.out) hlv
    have hru := runion_calls HN.out (HS.out.below hcp.bel)
    obtain ⟨pi, ci, hvi⟩ := hcp.vu.form
    rw [hcp.len, ← HM.out] at hvi
    have HRU := Lib.hid hru
    have HIN := Lib.hid hin
    have HCP := Lib.hid hcp
    subst hvi
    clear hU hcp hin hru
    go_upto_region 7 with (first
      | (go_at_call 20
         refine HRU.out.mono ?_
         clear HRU
         rintro e w4 ⟨vb, rfl, hvb, hb4⟩
         have HVB := Lib.hid hvb
         have HB4 := Lib.hid hb4
         clear hvb hb4)
      | fail)
    have hvb := HVB.out.ru
    obtain ⟨pb, cb, evb⟩ := hvb.form
    obtain ⟨R, hR⟩ : ∃ R, R = Bm.unR n Vs := ⟨_, rfl⟩
    obtain ⟨Er, hEr⟩ : ∃ Er, Er = Bm.unErr n Vs := ⟨_, rfl⟩
    have hRl : R.length ≤ 1024 := by rw [hR]; exact unR_len
    rw [← hR] at evb hvb
    obtain ⟨Lb, hLb⟩ : ∃ Lb, Lb = R.length := ⟨_, rfl⟩
    rw [← hLb] at evb
    have HR := Lib.hid hR
    have HER := Lib.hid hEr
    have HRL := Lib.hid hRl
    rw [← hEr]
    subst evb
    have HVBR := Lib.hid hvb
    obtain ⟨w5, hw5⟩ : ∃ w5, w5 = w4.alloc (.cells #[.slice none 0 0, .bool false, .slice none 0 0, .slice none 0 0] 31) := ⟨_, rfl⟩
    obtain ⟨b, hb⟩ : ∃ b, b = w4.heap.size := ⟨_, rfl⟩
    have hbk : Bok w5 b (fun k => k = b) false 0 := by rw [hw5, hb]; exact Bok.new (heap_new _ _ _ rfl)
    have hat : At3 w4 w5 (fun k => k = b) := by rw [hw5]; exact ⟨Mod.of_below (below_alloc1 _ _), fun k e => by omega⟩
    have HBK := Lib.hid hbk
    have HAT := Lib.hid hat
    have HW5 := Lib.hid hw5
    have HBB := Lib.hid hb
    clear hR hEr hRl hLb hvb hbk hat hw5 hb hlv HVB
    go_wp2_with fail
    rw [← HW5.out, ← HBB.out]
    clear HW5
    refine wp_loop_count (fun r a X => Is (fun U => ⟨#[.int .i64 n, .slice q M c, U 2, U 3, .bool false, .slice pi M ci, U 6, .slice pb Lb cb, .int .i64 (Er : Nat), .pointer (some ⟨b, 0, none⟩), .int .i64 r, U 11, U 12, U 13, U 14, U 15, U 16, U 17, U 18, U 19, U 20, U 21, U 22, U 23, U 24, U 25, U 26, U 27, U 28, U 29, U 30, U 31, U 32, U 33, U 34, U 35, U 36, U 37, U 38, U 39, U 40, U 41, U 42, U 43, U 44, U 45, U 46, U 47, U 48, U 49, U 50, U 51, U 52, U 53, U 54, U 55, U 56, U 57, U 58, U 59, U 60, U 61, U 62, U 63, U 64, U 65, U 66, U 67, U 68, U 69, U 70, U 71, U 72, U 73, U 74, U 75, U 76, U 77, U 78, U 79, U 80], []⟩) a ∧ ∃ own, Bok X b own false (2 * r) ∧ At3 w4 X own) 3 ⟨isU (fun U => ⟨#[.int .i64 n, .slice q M c, U 2, U 3, .bool false, .slice pi M ci, U 6, .slice pb Lb cb, .int .i64 (Er : Nat), .pointer (some ⟨b, 0, none⟩), .int .i64 0, U 11, U 12, U 13, U 14, U 15, U 16, U 17, U 18, U 19, U 20, U 21, U 22, U 23, U 24, U 25, U 26, U 27, U 28, U 29, U 30, U 31, U 32, U 33, U 34, U 35, U 36, U 37, U 38, U 39, U 40, U 41, U 42, U 43, U 44, U 45, U 46, U 47, U 48, U 49, U 50, U 51, U 52, U 53, U 54, U 55, U 56, U 57, U 58, U 59, U 60, U 61, U 62, U 63, U 64, U 65, U 66, U 67, U 68, U 69, U 70, U 71, U 72, U 73, U 74, U 75, U 76, U 77, U 78, U 79, U 80], []⟩) rfl, _, HBK.out, HAT.out⟩ ?_ ?_
    · clear HBK HAT
      rintro r a X hr ⟨hU, own, hbk, hat⟩
      obtain ⟨U, rfl⟩ := hU.out
      have hbw : Below w.heap.size w X := (HCP.out.bel.trans (HB4.out.mono HCP.out.bel.size)).trans (hat.bel.mono (Nat.le_trans HCP.out.bel.size HB4.out.size))
      have hb3 : Below w3.heap.size w3 X := HB4.out.trans (hat.bel.mono HB4.out.size)
      have hun := union_calls HN.out (HIN.out.below hb3) (HT.out.below hbw)
      have HUN := Lib.hid hun
      have HBK := Lib.hid hbk
      have HAT := Lib.hid hat
      have hr3 : (r : Int) < 3 := by exact_mod_cast hr
      have hr0 : (0 : Int) ≤ (r : Int) := Int.natCast_nonneg r
      clear hU hbk hat hbw hb3 hun
      go_upto_region 12 with (first
        | (go_at_call 21
           refine HUN.out.mono ?_
           clear HUN
           rintro e X1 ⟨va, rfl, hva, hb1⟩
           rw [← HR.out] at hva
           have HVA := Lib.hid hva
           have HB1 := Lib.hid hb1
           clear hva hb1)
        | fail)
      rw [← HER.out]
      have hva := HVA.out.ru
      obtain ⟨pa, ca, eva⟩ := hva.form
      obtain ⟨La, hLa⟩ : ∃ La, La = R.length := ⟨_, rfl⟩
      rw [← hLa] at eva
      subst eva
      have hvb := HVBR.out.below (HAT.out.bel)
      have hsw := sameWords_calls hva (hvb.below HB1.out)
      have hat1 := HAT.out.below HB1.out
      have hbk1 := HBK.out.below HB1.out
      have HSW := Lib.hid hsw
      have HAT1 := Lib.hid hat1
      have HBK1 := Lib.hid hbk1
      clear hva hLa hvb hsw hat1 hbk1
      go_upto_region 14 with (first
        | (go_at_call 22
           refine HSW.out.out.mono ?_
           clear HSW
           rintro e X2 ⟨rfl, hb2⟩
           have HB2 := Lib.hid hb2
           clear hb2)
        | fail)
      have hkeep := keepC_now.run (HBK1.out.below HB2.out) ((HVA.out.below HB2.out).more (Nat.zero_le _)) (by have := HRL.out; omega) (fun g e e' => by
        have h1 := (HVA.out.lt g e).1
        have h2 := HBK.out.lt g e'
        omega) (by omega)
      have HKP := Lib.hid hkeep
      clear hkeep
      go_upto_region 15 with (first
        | (go_at_call 23
           refine HKP.out.mono ?_
           clear HKP
           rintro e X3 ⟨rfl, own', hbk3, hlow3, hm3⟩
           have HBK3 := Lib.hid hbk3
           have HL3 := Lib.hid hlow3
           have HM3 := Lib.hid hm3
           clear hbk3 hlow3 hm3)
        | fail)
      have hat3 : At3 w4 X3 own' := by
        have hat2 := HAT1.out.below HB2.out
        have hva2 : ∀ k, (Value.slice pa La ca).ownBlock = some k → w4.heap.size ≤ k := fun k e => by have h1 := (HVA.out.lt k e).1; have h2 := HAT.out.bel.size; omega
        refine ⟨hat2.mod.on HM3.out fun k e => .inl (e.elim (hat2.own k) (hva2 k)), fun k e => ?_⟩
        rcases Nat.lt_or_ge k X2.heap.size with h1 | h1
        · exact ((HL3.out k h1).1 e).elim (hat2.own k) (hva2 k)
        · exact Nat.le_trans hat2.bel.size h1
      have HAT3 := Lib.hid hat3
      have HKT := Lib.hid (HBK3.out.kept (by omega))
      clear hat3 HB2 HAT1 HBK1 HVA HB1 HL3 HM3
      go_wp2_with (first
        | (go_at_call 24
           refine HKT.out.out.mono ?_
           clear HKT
           rintro e X4 ⟨rfl, hb4⟩
           have HAT4 := Lib.hid (HAT3.out.below hb4)
           have HBK4 := Lib.hid (HBK3.out.below hb4)
           clear hb4)
        | fail)
      refine wp_loop_count (fun i a X => Is (fun U => ⟨#[.int .i64 n, .slice q M c, U 2, U 3, .bool false, .slice pi M ci, U 6, .slice pb Lb cb, .int .i64 (Er : Nat), .pointer (some ⟨b, 0, none⟩), .int .i64 r, U 11, U 12, U 13, .int .i64 i, U 15, U 16, U 17, U 18, U 19, U 20, U 21, U 22, U 23, U 24, U 25, U 26, U 27, U 28, U 29, U 30, U 31, U 32, U 33, U 34, U 35, U 36, U 37, U 38, U 39, U 40, U 41, U 42, U 43, U 44, U 45, U 46, U 47, U 48, U 49, U 50, U 51, U 52, U 53, U 54, U 55, U 56, U 57, U 58, U 59, U 60, U 61, U 62, U 63, U 64, U 65, U 66, U 67, U 68, U 69, U 70, U 71, U 72, U 73, U 74, U 75, U 76, U 77, U 78, U 79, U 80], []⟩) a ∧ Bok X b own' false (2 * r + 2) ∧ At3 w4 X own') M ⟨isU (fun U => ⟨#[.int .i64 n, .slice q M c, U 2, U 3, .bool false, .slice pi M ci, U 6, .slice pb Lb cb, .int .i64 (Er : Nat), .pointer (some ⟨b, 0, none⟩), .int .i64 r, U 11, U 12, U 13, .int .i64 0, U 15, U 16, U 17, U 18, U 19, U 20, U 21, U 22, U 23, U 24, U 25, U 26, U 27, U 28, U 29, U 30, U 31, U 32, U 33, U 34, U 35, U 36, U 37, U 38, U 39, U 40, U 41, U 42, U 43, U 44, U 45, U 46, U 47, U 48, U 49, U 50, U 51, U 52, U 53, U 54, U 55, U 56, U 57, U 58, U 59, U 60, U 61, U 62, U 63, U 64, U 65, U 66, U 67, U 68, U 69, U 70, U 71, U 72, U 73, U 74, U 75, U 76, U 77, U 78, U 79, U 80], []⟩) rfl, HBK4.out, HAT4.out⟩ ?_ ?_
      · clear HBK4 HAT4 HBK3 HAT3
        rintro i a X5 hi ⟨hU, hbk, hat⟩
        obtain ⟨U, rfl⟩ := hU.out
        obtain ⟨V, hV⟩ : ∃ V, Vs[i]? = some V := ⟨_, List.getElem?_eq_getElem (by rw [← HM.out]; exact hi)⟩
        have hi2 : i < Vs.length := by rw [← HM.out]; exact hi
        obtain ⟨g, off, u, x, rfl, hg, hcell, hru, hK, hcop, hxb⟩ := HCP.out.cop i V hi2 hV
        obtain ⟨gi, cap2, ee, lgi, cgi⟩ := HCP.out.vu.get hK
        simp only [Value.slice.injEq] at ee
        obtain ⟨rfl, -, rfl⟩ := ee
        have hbw : Below w.heap.size w X5 := (HCP.out.bel.trans (HB4.out.mono HCP.out.bel.size)).trans (hat.bel.mono (Nat.le_trans HCP.out.bel.size HB4.out.size))
        have hb3 : Below w3.heap.size w3 X5 := HB4.out.trans (hat.bel.mono HB4.out.size)
        have hcx := ((bcell hbw).1 g (off + i) hg).trans hcell
        have hci := ((bcell hb3).1 gi i lgi).trans cgi
        have hgx := Nat.lt_of_lt_of_le hg hbw.size
        have hgix := Nat.lt_of_lt_of_le lgi hb3.size
        have hVl := HVS.out V (List.mem_of_getElem? hV)
        have hint : ∀ X6, Below X5.heap.size X5 X6 → Pur Tryd.prog 25 #[x, u] X6 (.bool true) := fun X6 h6 =>
          intact_calls ((hcop.below hb3).below h6) ((hru.below hbw).below h6) (by omega)
        obtain ⟨px, cx, ex⟩ := ((hcop.below hb3).ru (by omega)).form
        obtain ⟨pu, cu, eu⟩ := hru.form
        generalize V.length = LV at ex eu
        subst ex eu
        have HINT := Lib.hid hint
        have HBK5 := Lib.hid hbk
        have HAT5 := Lib.hid hat
        have hi' : (i : Int) < (M : Int) := by exact_mod_cast hi
        have hi0 : (0 : Int) ≤ (i : Int) := Int.natCast_nonneg i
        clear hU hbk hat hV hi2 hg hcell hru hK hcop hxb lgi cgi hbw hb3 hVl hint
        go_upto_region 21 with fail
        refine wp_region_R (Below X5.heap.size X5) (by kernel_rfl) (by kernel_rfl) (by first | exact Below.refl _ _ | exact below_alloc1 _ _ | exact below_alloc2 _ _ _ | exact below_alloc3 _ _ _ _ | (repeat' (first | assumption | exact Below.refl _ _ | exact below_alloc1 _ _ | exact below_alloc2 _ _ _ | exact below_alloc3 _ _ _ _ | (refine Below.drew ?_) | (refine below_wb ?_ ?_) | (refine Below.alloc ?_ ?_ _) | omega | (simp; done) | (simp; omega)))) ?_
        (repeat (first | (apply wpR_pass rfl; (try simp only [Act.put, List.setIfInBounds_toArray, List.set_cons_succ, List.set_cons_zero])) | (apply wpR_val rfl; (focus (intro w1 hR; obtain ⟨hc, hf⟩ := bcellB hR; (try go_simp); (try exact Eq.refl _); done)); (try simp only [Act.put, List.setIfInBounds_toArray, List.set_cons_succ, List.set_cons_zero])) | (apply wpR_call rfl; (focus (intro w1 hR; obtain ⟨hc, hf⟩ := bcellB hR; (try go_simp); (try exact And.intro rfl rfl); done)); (focus (intro w1 hR; first | exact (HINT.out w1 hR).at_ (by first | omega | (simp; done) | (simp; omega)) hR)); (try simp only [Act.put, List.setIfInBounds_toArray, List.set_cons_succ, List.set_cons_zero])) | (apply wpR_val_want rfl; (focus (intro w1 hR; obtain ⟨hc, hf⟩ := bcellB hR; (try go_simp); (try exact Eq.refl _); done)); (try simp only [Act.put, List.setIfInBounds_toArray, List.set_cons_succ, List.set_cons_zero])) | (apply wpR_call_want rfl; (focus (intro w1 hR; obtain ⟨hc, hf⟩ := bcellB hR; (try go_simp); (try exact And.intro rfl rfl); done)); (focus (intro w1 hR; first | exact (HINT.out w1 hR).at_ (by first | omega | (simp; done) | (simp; omega)) hR)); (try simp only [Act.put, List.setIfInBounds_toArray, List.set_cons_succ, List.set_cons_zero]))))
        refine wpR_nil (fun X6 hb6 => ?_)
        have HBK6 := Lib.hid (HBK5.out.below hb6)
        have HAT6 := Lib.hid (HAT5.out.below hb6)
        clear hb6 hcx hci
        go_wp2_with fail
        exact ⟨isU (fun U => ⟨#[.int .i64 n, .slice (some ⟨g, off, none⟩) M c, U 2, U 3, .bool false, .slice (some ⟨gi, 0, none⟩) M ci, U 6, .slice pb Lb cb, .int .i64 (Er : Nat), .pointer (some ⟨b, 0, none⟩), .int .i64 r, U 11, U 12, U 13, .int .i64 (i + 1 : Nat), U 15, U 16, U 17, U 18, U 19, U 20, U 21, U 22, U 23, U 24, U 25, U 26, U 27, U 28, U 29, U 30, U 31, U 32, U 33, U 34, U 35, U 36, U 37, U 38, U 39, U 40, U 41, U 42, U 43, U 44, U 45, U 46, U 47, U 48, U 49, U 50, U 51, U 52, U 53, U 54, U 55, U 56, U 57, U 58, U 59, U 60, U 61, U 62, U 63, U 64, U 65, U 66, U 67, U 68, U 69, U 70, U 71, U 72, U 73, U 74, U 75, U 76, U 77, U 78, U 79, U 80], []⟩) rfl, HBK6.out, HAT6.out⟩
      · clear HBK4 HAT4 HBK3 HAT3
        rintro a X5 ⟨hU, hbk, hat⟩
        obtain ⟨U, rfl⟩ := hU.out
        have HBK5 := Lib.hid hbk
        have HAT5 := Lib.hid hat
        clear hU hbk hat
        go_wp2_with fail
        exact ⟨isU (fun U => ⟨#[.int .i64 n, .slice q M c, U 2, U 3, .bool false, .slice pi M ci, U 6, .slice pb Lb cb, .int .i64 (Er : Nat), .pointer (some ⟨b, 0, none⟩), .int .i64 (r + 1 : Nat), U 11, U 12, U 13, U 14, U 15, U 16, U 17, U 18, U 19, U 20, U 21, U 22, U 23, U 24, U 25, U 26, U 27, U 28, U 29, U 30, U 31, U 32, U 33, U 34, U 35, U 36, U 37, U 38, U 39, U 40, U 41, U 42, U 43, U 44, U 45, U 46, U 47, U 48, U 49, U 50, U 51, U 52, U 53, U 54, U 55, U 56, U 57, U 58, U 59, U 60, U 61, U 62, U 63, U 64, U 65, U 66, U 67, U 68, U 69, U 70, U 71, U 72, U 73, U 74, U 75, U 76, U 77, U 78, U 79, U 80], []⟩) rfl, own', HBK5.out.more (by omega), HAT5.out⟩
    · clear HBK HAT
      rintro a X ⟨hU, own, hbk, hat⟩
      obtain ⟨U, rfl⟩ := hU.out
      have HAT := Lib.hid hat
      clear hU hbk hat
      go_wp2_with fail
      go_ret
      exact ⟨rfl, (HCP.out.bel.trans (HB4.out.mono HCP.out.bel.size)).trans (HAT.out.bel.mono (Nat.le_trans HCP.out.bel.size HB4.out.size))⟩
end Go.Proofs.YtckbckdaffdjmaaDoor

/- The statement BitmapTwoLevels: the walk. -/
namespace Go.Proofs.YtckbckdaffdjmaaDoor
open Go.RowKit
set_option maxRecDepth 100000
set_option linter.unusedVariables false
set_option linter.unusedSimpArgs false

theorem shr_one {x r : Nat} (hx : x < 18446744073709551616) (h : x.testBit r = true) : (bits .and .u64 ((x : Int) / 2 ^ r) 1 != 1) = false := by
  have := shr_bit (r := r) hx
  rw [h] at this
  simp only [bne, this]; rfl
theorem shr_zero {x r : Nat} (hx : x < 18446744073709551616) (h : x.testBit r = false) : (bits .and .u64 ((x : Int) / 2 ^ r) 1 != 0) = false := by
  have h2 : x / 2 ^ r < 18446744073709551616 := Nat.lt_of_le_of_lt (Nat.div_le_self _ _) hx
  have h3 := u64_and_nat (x / 2 ^ r) 1 h2 (by decide)
  rw [Nat.and_one_is_mod] at h3
  rw [Nat.testBit_eq_decide_div_mod_eq] at h
  have h4 : x / 2 ^ r % 2 = 0 := by
    rcases Nat.mod_two_eq_zero_or_one (x / 2 ^ r) with e | e
    · exact e
    · rw [e] at h; cases h
  rw [h4] at h3
  rw [div_nat, show bits .and .u64 ((x / 2 ^ r : Nat) : Int) 1 = ((0 : Nat) : Int) from h3]; rfl
set_option maxHeartbeats 16000000 in
theorem twolevels_main {w : World} {n b f : Nat} {v sv : Value} {V : List UInt64} {ops : List OpV} (hok : Bm.Ok n V) (hv : RU w v V) (hs : SlOp w sv ops) (hT : Tz w) (hb : b < n) (hf : f < n) :
    Pur Tryd.prog 5 #[.int .i64 n, v, sv, .int .i64 b, .int .i64 f] w (.bool true) := by
  unfold Pur
  have hmx := hok.max
  have hpos := hok.pos
  have hli := lawlisted_calls (n := n) hv (wf_nat (by omega))
  rw [show Bm.listedB n V = true by unfold Bm.listedB; rw [decide_eq_true (by omega), Int.toNat_natCast, Bm.valid_of_ok hok]; rfl] at hli
  have HLI := Lib.hid hli
  have HOK := Lib.hid hok
  have HV := Lib.hid hv
  have HS := Lib.hid hs
  have HT := Lib.hid hT
  have HBN := Lib.hid hb
  have HFN := Lib.hid hf
  obtain ⟨vp, vc, hve⟩ := hv.form
  obtain ⟨sp, sc, hse, -, -⟩ := hs
  generalize V.length = VL at hve
  generalize ops.length = SL at hse
  subst hve hse
  have hn0 : (n : Int) ≤ 65536 := by omega
  have hb0 : (0 : Int) ≤ (b : Int) := Int.natCast_nonneg b
  have hf0 : (0 : Int) ≤ (f : Int) := Int.natCast_nonneg f
  have hb1 : (b : Int) < (n : Int) := by omega
  have hf1 : (f : Int) < (n : Int) := by omega
  clear hok hv hT hli hmx hpos hb hf
  go_enter Tryd.func5, Tryd.ntmps5
  go_upto_region 5 with (first
    | (go_at_call 26; refine HLI.out.out.mono ?_; clear HLI; rintro e w1 ⟨rfl, hbw⟩
       have hl := lawlay_calls HOK.out (HV.out.below hbw) (HS.out.below hbw)
       have HB1 := Lib.hid hbw
       have HL := Lib.hid hl
       clear hbw hl)
    | (go_at_call 27; refine HL.out.mono ?_; clear HL; rintro e w2 ⟨p, bw, ba, W1, rfl, hm, hp1, hp2, hp3, hbw⟩
       have HM2 := Lib.hid hm
       have HB2 : Hid (Below w.heap.size w w2) := Lib.hid (HB1.out.trans (hbw.mono HB1.out.size))
       have HP : Hid (∀ k, BM.At p bw ba k → w.heap.size ≤ k) := Lib.hid (by have := HB1.out.size; rintro k (rfl | rfl | rfl) <;> omega)
       clear hm hp1 hp2 hp3 hbw HB1)
    | fail)
  have hst := set_calls HM2.out HBN.out
  have HST := Lib.hid hst
  clear hst
  go_upto_region 8 with (first
    | (go_at_call 28; refine HST.out.mono ?_; clear HST; rintro e w3 ⟨rfl, hm, hmd⟩
       have HM3 := Lib.hid hm
       have HB3 : Hid (Below w.heap.size w w3) := Lib.hid (HB2.out.trans (hmd.below HB2.out.size HP.out))
       clear hm hmd)
    | fail)
  have hbit : Bm.bit (Bm.setW n W1 b (b + 1) true) b = true := by rw [Bm.setW_bit HM2.out.ok (by have := HBN.out; omega), if_pos (by omega)]
  obtain ⟨W2, hW2⟩ : ∃ W2, W2 = Bm.setW n W1 b (b + 1) true := ⟨_, rfl⟩
  rw [← hW2] at hbit HM3
  clear hW2
  have hte := test_calls HM3.out HBN.out
  rw [hbit] at hte
  have HTE := Lib.hid hte
  clear hte
  go_upto_region 9 with (first
    | (go_at_call 29; refine HTE.out.out.mono ?_; clear HTE; rintro e w4 ⟨rfl, hbw⟩
       have HM4 := Lib.hid (HM3.out.below hbw)
       have HB4 : Hid (Below w.heap.size w w4) := Lib.hid (HB3.out.trans (hbw.mono HB3.out.size))
       clear hbw)
    | fail)
  go_upto_region 10 with (first
    | (go_at_call 30; refine (levels_calls HM4.out).out.mono ?_; rintro e w5 ⟨rfl, hbw⟩
       have HM5 := Lib.hid (HM4.out.below hbw)
       have HB5 : Hid (Below w.heap.size w w5) := Lib.hid (HB4.out.trans (hbw.mono HB4.out.size))
       clear hbw)
    | fail)
  have hnx := next_calls HM5.out (HT.out.below HB5.out) (wf_nat (n := b) (by omega))
  rw [Int.toNat_natCast, ← (show Bm.IsFind (Bm.bit W2) n b (b : Int) from .inr ⟨b, rfl, Nat.le_refl _, HBN.out, hbit, fun t h1 h2 => by omega⟩).eq] at hnx
  have HNX := Lib.hid hnx
  clear hnx
  go_upto_region 11 with (first
    | (go_at_call 31; refine HNX.out.out.mono ?_; clear HNX; rintro e w6 ⟨rfl, hbw⟩
       have HM6 := Lib.hid (HM5.out.below hbw)
       have HB6 : Hid (Below w.heap.size w w6) := Lib.hid (HB5.out.trans (hbw.mono HB5.out.size))
       clear hbw)
    | fail)
  have HLN : Hid (W2.length = Bm.room n) := Lib.hid HM6.out.ok.len
  obtain ⟨x, hx⟩ : ∃ x, W2[b / 64]? = some x := ⟨_, List.getElem?_eq_getElem (by have := Bm.room_lt HBN.out; rw [HLN.out]; exact this)⟩
  have hxb : x.toNat.testBit (b % 64) = true := by rw [← hbit, Bm.bit, List.getD_eq_getElem?_getD, hx]; rfl
  have hx1 := shr_one x.toNat_lt hxb
  have hrl := HM6.out.room_le.1
  obtain ⟨R, hR⟩ : ∃ R, R = Bm.room n := ⟨_, rfl⟩
  have hq : b / 64 < R := by rw [hR]; exact Bm.room_lt HBN.out
  rw [← hR] at HLN hrl
  have hq0 : 0 ≤ (b : Int) / 64 := by omega
  have hq1 : (b : Int) / 64 < (R : Int) := by omega
  have hq2 : ((b : Int) / 64).toNat = b / 64 := by omega
  have HX := Lib.hid hx
  clear hx hxb hR hq hrl
  go_upto_region 12 with (first
    | (go_at_call 32; refine (words_calls HM6.out).mono ?_; rintro e w7 ⟨v7, rfl, g, hv7, hrw, hgs, hbw⟩
       rw [HLN.out] at hv7
       subst hv7
       have cx := hrw.cell (i := b / 64) (v := uv x) (by simp [HX.out])
       have HM7 := Lib.hid (HM6.out.below hbw)
       have HB7 : Hid (Below w.heap.size w w7) := Lib.hid (HB6.out.trans (hbw.mono HB6.out.size))
       have lg := heap_lt hrw
       clear hrw hgs hbw)
    | fail)
  have HBIT := Lib.hid hbit
  clear hbit
  go_upto_region 14 with (first
    | (go_at_call 33; refine (num_calls _).out.mono ?_; rintro e w8 ⟨rfl, hbw⟩
       have cx8 := ((bcell hbw).1 _ _ lg).trans cx
       have HM8 := Lib.hid (HM7.out.below hbw)
       have HB8 : Hid (Below w.heap.size w w8) := Lib.hid (HB7.out.trans (hbw.mono HB7.out.size))
       clear hbw)
    | fail)
  have hcl := clear_calls HM8.out HBN.out
  rw [HBIT.out] at hcl
  have HCL := Lib.hid hcl
  clear hcl cx cx8 hx1 HX lg
  go_upto_region 15 with (first
    | (go_at_call 34; refine HCL.out.mono ?_; clear HCL; rintro e w9 ⟨rfl, hm, hmd⟩
       have HM9 := Lib.hid hm
       have HB9 : Hid (Below w.heap.size w w9) := Lib.hid (HB8.out.trans (hmd.below HB8.out.size HP.out))
       clear hm hmd)
    | fail)
  have hbit3 : Bm.bit (Bm.setW n W2 b (b + 1) false) b = false := by rw [Bm.setW_bit HM8.out.ok (by have := HBN.out; omega), if_pos (by omega)]
  obtain ⟨W3, hW3⟩ : ∃ W3, W3 = Bm.setW n W2 b (b + 1) false := ⟨_, rfl⟩
  rw [← hW3] at hbit3 HM9
  clear hW3
  have hte := test_calls HM9.out HBN.out
  rw [hbit3] at hte
  have HTE := Lib.hid hte
  clear hte
  go_upto_region 16 with (first
    | (go_at_call 29; refine HTE.out.out.mono ?_; clear HTE; rintro e w10 ⟨rfl, hbw⟩
       have HM10 := Lib.hid (HM9.out.below hbw)
       have HB10 : Hid (Below w.heap.size w w10) := Lib.hid (HB9.out.trans (hbw.mono HB9.out.size))
       clear hbw)
    | fail)
  go_upto_region 17 with (first
    | (go_at_call 30; refine (levels_calls HM10.out).out.mono ?_; rintro e w11 ⟨rfl, hbw⟩
       have HM11 := Lib.hid (HM10.out.below hbw)
       have HB11 : Hid (Below w.heap.size w w11) := Lib.hid (HB10.out.trans (hbw.mono HB10.out.size))
       clear hbw)
    | fail)
  have hnc := nextclear_calls HM11.out (HT.out.below HB11.out) (wf_nat (n := b) (by omega))
  rw [Int.toNat_natCast, ← (show Bm.IsFind (fun t => !Bm.bit W3 t) n b (b : Int) from .inr ⟨b, rfl, Nat.le_refl _, HBN.out, by show (!Bm.bit W3 b) = true; rw [hbit3]; rfl, fun t h1 h2 => by omega⟩).eq] at hnc
  have HNC := Lib.hid hnc
  clear hnc
  go_upto_region 18 with (first
    | (go_at_call 35; refine HNC.out.out.mono ?_; clear HNC; rintro e w12 ⟨rfl, hbw⟩
       have HM12 := Lib.hid (HM11.out.below hbw)
       have HB12 : Hid (Below w.heap.size w w12) := Lib.hid (HB11.out.trans (hbw.mono HB11.out.size))
       clear hbw)
    | fail)
  have HLN3 : Hid (W3.length = R) := Lib.hid (by rw [HM12.out.ok.len, ← HM8.out.ok.len]; exact HLN.out)
  obtain ⟨y, hy⟩ : ∃ y, W3[b / 64]? = some y := ⟨_, List.getElem?_eq_getElem (by rw [HLN3.out]; omega)⟩
  have hyb : y.toNat.testBit (b % 64) = false := by rw [← hbit3, Bm.bit, List.getD_eq_getElem?_getD, hy]; rfl
  have hy1 := shr_zero y.toNat_lt hyb
  have HY := Lib.hid hy
  clear hy hyb hbit3
  go_upto_region 19 with (first
    | (go_at_call 32; refine (words_calls HM12.out).mono ?_; rintro e w13 ⟨v13, rfl, g2, hv13, hrw, hgs, hbw⟩
       rw [HLN3.out] at hv13
       subst hv13
       have cy := hrw.cell (i := b / 64) (v := uv y) (by simp [HY.out])
       have HM13 := Lib.hid (HM12.out.below hbw)
       have HB13 : Hid (Below w.heap.size w w13) := Lib.hid (HB12.out.trans (hbw.mono HB12.out.size))
       have lg2 := heap_lt hrw
       clear hrw hgs hbw)
    | fail)
  have hnum := fun (w : World) (e : Int) => num_calls (w := w) e
  have HNa := Lib.hid hnum
  have HNb := Lib.hid hnum
  clear hnum
  go_upto_region 21 with (first
    | (go_at_call 33; refine (HNa.out w13 _).out.mono ?_; clear HNa; rintro e w14 ⟨rfl, hbw⟩
       have cy14 := ((bcell hbw).1 _ _ lg2).trans cy
       have lg14 := Nat.lt_of_lt_of_le lg2 hbw.size
       have HM14 := Lib.hid (HM13.out.below hbw)
       have HB14 : Hid (Below w.heap.size w w14) := Lib.hid (HB13.out.trans (hbw.mono HB13.out.size))
       clear hbw cy lg2)
    | (go_at_call 33; refine (HNb.out w14 _).out.mono ?_; clear HNb; rintro e w15 ⟨rfl, hbw⟩
       have cy15 := ((bcell hbw).1 _ _ lg14).trans cy14
       have HM15 := Lib.hid (HM14.out.below hbw)
       have HB15 : Hid (Below w.heap.size w w15) := Lib.hid (HB14.out.trans (hbw.mono HB14.out.size))
       clear hbw cy14 lg14)
    | fail)
  clear cy15 hy1 HY
  have hen := ends_calls HM15.out (HT.out.below HB15.out) HFN.out
  have HEN := Lib.hid hen
  clear hen
  go_wp2_with (first
    | (go_at_call 36; refine HEN.out.out.mono ?_; rintro e w16 ⟨rfl, hbw⟩)
    | fail)
  go_ret
  exact ⟨rfl, HB15.out.trans (hbw.mono HB15.out.size)⟩
end Go.Proofs.YtckbckdaffdjmaaDoor

/- The statement BitmapTwoLevels: every input. -/
namespace Go.Proofs.YtckbckdaffdjmaaDoor
open Go.RowKit
set_option maxRecDepth 100000
set_option linter.unusedVariables false
set_option linter.unusedSimpArgs false

set_option maxHeartbeats 8000000 in
theorem twolevels_calls {w : World} {n b f : Int} {v sv : Value} {V : List UInt64} {ops : List OpV} (hn : (Lit.int .i64 n).wf = true) (hv : RU w v V) (hs : SlOp w sv ops) (hT : Tz w) :
    Pur Tryd.prog 5 #[.int .i64 n, v, sv, .int .i64 b, .int .i64 f] w (.bool true) := by
  by_cases hl : Bm.listedB n V = true
  · have hl2 := hl
    unfold Bm.listedB at hl2
    simp only [Bool.and_eq_true, decide_eq_true_eq, beq_iff_eq] at hl2
    obtain ⟨m, rfl⟩ : ∃ m : Nat, n = m := ⟨n.toNat, by omega⟩
    rw [Int.toNat_natCast] at hl2
    have hok := Bm.ok_of_valid (by omega) (by omega) hl2.2
    by_cases h1 : 0 ≤ b ∧ b < m ∧ 0 ≤ f ∧ f < m
    · obtain ⟨b, rfl⟩ : ∃ k : Nat, b = k := ⟨b.toNat, by omega⟩
      obtain ⟨f, rfl⟩ : ∃ k : Nat, f = k := ⟨f.toNat, by omega⟩
      exact twolevels_main hok hv hs hT (by omega) (by omega)
    · unfold Pur
      have hli := lawlisted_calls hv hn
      rw [hl] at hli
      have HLI := Lib.hid hli
      obtain ⟨vp, vc, hve⟩ := hv.form
      generalize V.length = VL at hve
      subst hve
      clear hv hs hT hli hl hl2 hok hn
      go_enter Tryd.func5, Tryd.ntmps5
      by_cases e1 : b < 0
      · clear h1
        go_wp2_with (first | (go_at_call 26; refine HLI.out.out.mono ?_; rintro e w1 ⟨rfl, hbw⟩) | fail)
        go_ret
        exact ⟨rfl, hbw⟩
      · by_cases e2 : (m : Int) ≤ b
        · clear h1
          go_wp2_with (first | (go_at_call 26; refine HLI.out.out.mono ?_; rintro e w1 ⟨rfl, hbw⟩) | fail)
          go_ret
          exact ⟨rfl, hbw⟩
        · have e2' : b < (m : Int) := by omega
          have e1' : 0 ≤ b := by omega
          by_cases e3 : f < 0
          · clear h1
            go_wp2_with (first | (go_at_call 26; refine HLI.out.out.mono ?_; rintro e w1 ⟨rfl, hbw⟩) | fail)
            go_ret
            exact ⟨rfl, hbw⟩
          · have e4 : (m : Int) ≤ f := by omega
            have e3' : 0 ≤ f := by omega
            clear h1
            go_wp2_with (first | (go_at_call 26; refine HLI.out.out.mono ?_; rintro e w1 ⟨rfl, hbw⟩) | fail)
            go_ret
            exact ⟨rfl, hbw⟩
  · have hl' : Bm.listedB n V = false := by simpa using hl
    unfold Pur
    have hli := lawlisted_calls hv hn
    rw [hl'] at hli
    have HLI := Lib.hid hli
    obtain ⟨vp, vc, hve⟩ := hv.form
    generalize V.length = VL at hve
    subst hve
    clear hv hs hT hli hl hl' hn
    go_enter Tryd.func5, Tryd.ntmps5
    go_wp2_with (first | (go_at_call 26; refine HLI.out.out.mono ?_; rintro e w1 ⟨rfl, hbw⟩) | fail)
    go_ret
    exact ⟨rfl, hbw⟩
end Go.Proofs.YtckbckdaffdjmaaDoor

/- Merge and Union, side by side: what they come to. -/
namespace Go.Proofs.YtckbckdaffdjmaaDoor
open Go.RowKit
set_option maxRecDepth 100000
set_option linter.unusedVariables false
set_option linter.unusedSimpArgs false

namespace Bm
section
variable {n : Nat} {A B : List UInt64}
theorem mer_zero (hA : Ok n A) : mer (List.replicate (room n) 0) A = A :=
  (mer_ok (ok_zero hA.pos hA.max) hA).ext hA fun t => by
    rw [mer_bit (ok_zero hA.pos hA.max) hA]
    have : bit (List.replicate (room n) 0) t = false := by
      unfold bit
      rw [List.getD_eq_getElem?_getD, List.getElem?_replicate]
      split <;> simp
    rw [this]; rfl
theorem mer_twice (hA : Ok n A) (hB : Ok n B) : mer (mer A B) B = mer A B :=
  (mer_ok (mer_ok hA hB) hB).ext (mer_ok hA hB) fun t => by
    rw [mer_bit (mer_ok hA hB) hB, mer_bit hA hB]; cases bit A t <;> cases bit B t <;> rfl
theorem mer_bab (hA : Ok n A) (hB : Ok n B) : mer (mer B A) B = mer A B :=
  (mer_ok (mer_ok hB hA) hB).ext (mer_ok hA hB) fun t => by
    rw [mer_bit (mer_ok hB hA) hB, mer_bit hA hB, mer_bit hB hA]; cases bit A t <;> cases bit B t <;> rfl
theorem un_ab (hA : Ok n A) (hB : Ok n B) : unErr (n : Int) [A, B] = 0 ∧ unR (n : Int) [A, B] = mer A B := by
  have he : unErr (n : Int) [A, B] = 0 := by
    unfold unErr
    have h1 := hA.pos; have h2 := hA.max
    rw [if_neg (by omega), Int.toNat_natCast, unE, if_pos (valid_of_ok hA), unE, if_pos (valid_of_ok hB)]; rfl
  refine ⟨he, ?_⟩
  unfold unR
  rw [if_pos he, Int.toNat_natCast]
  show mer (mer _ A) B = _
  rw [mer_zero hA]
theorem un_bab (hA : Ok n A) (hB : Ok n B) : unErr (n : Int) [B, A, B] = 0 ∧ unR (n : Int) [B, A, B] = mer A B := by
  have he : unErr (n : Int) [B, A, B] = 0 := by
    unfold unErr
    have h1 := hA.pos; have h2 := hA.max
    rw [if_neg (by omega), Int.toNat_natCast, unE, if_pos (valid_of_ok hB), unE, if_pos (valid_of_ok hA), unE, if_pos (valid_of_ok hB)]; rfl
  refine ⟨he, ?_⟩
  unfold unR
  rw [if_pos he, Int.toNat_natCast]
  show mer (mer (mer _ B) A) B = _
  rw [mer_zero hB, mer_bab hA hB]
theorem mer_at (hA : Ok n A) (hB : Ok n B) {i : Nat} {x y : UInt64} (hx : A[i]? = some x) (hy : B[i]? = some y) : (mer A B)[i]? = some (x ||| y) := by
  have hi := (List.getElem?_eq_some_iff.1 hx).1
  have h1 := merTo_getD A B A.length i
  rw [if_pos ⟨hi, hi⟩] at h1
  have hl : i < (mer A B).length := by unfold mer; rw [merTo_length]; exact hi
  rw [List.getElem?_eq_getElem hl]
  rw [List.getElem?_eq_getElem hi] at hx
  have hiB := (List.getElem?_eq_some_iff.1 hy).1
  rw [List.getElem?_eq_getElem hiB] at hy
  injection hx with hx; injection hy with hy
  have h2 : (mer A B).getD i 0 = (mer A B)[i] := by rw [List.getD_eq_getElem?_getD, List.getElem?_eq_getElem hl]; rfl
  rw [← h2]
  unfold mer
  rw [h1, List.getD_eq_getElem?_getD, List.getD_eq_getElem?_getD, List.getElem?_eq_getElem hi, List.getElem?_eq_getElem hiB]
  show some (A[i] ||| B[i]) = _
  rw [hx, hy]
end
end Bm
/-- Lists written out. -/
theorem su_lit {w : World} {xs : List Value} {Vs : List (List UInt64)} (hl : xs.length = Vs.length) (h9 : Vs.length ≤ 5864062014805) (h : ∀ (i : Nat) (x : Value) (V : List UInt64), xs[i]? = some x → Vs[i]? = some V → RU w x V) :
    SU (w.alloc (.cells xs.toArray 22)) (.slice (some ⟨w.heap.size, 0, none⟩) xs.length xs.length) Vs := by
  refine ⟨some ⟨w.heap.size, 0, none⟩, xs.length, by rw [hl], h9, fun i V hV => ?_⟩
  have hi := (List.getElem?_eq_some_iff.1 hV).1
  obtain ⟨x, hx⟩ : ∃ x, xs[i]? = some x := ⟨_, List.getElem?_eq_getElem (by omega)⟩
  have hr : Rw (w.alloc (.cells xs.toArray 22)) w.heap.size 22 xs := heap_new _ _ _ rfl
  exact ⟨w.heap.size, 0, x, rfl, heap_lt hr, by rw [Nat.zero_add]; exact hr.cell hx, (h i x V hx hV).below (below_alloc1 _ _)⟩
set_option maxHeartbeats 16000000 in
theorem lawlay_nil {w : World} {n : Nat} {v : Value} {V : List UInt64} (hok : Bm.Ok n V) (hv : RU w v V) :
    Calls Tryd.prog 27 #[.int .i64 n, v, .slice none 0 0] w fun e w' => ∃ p bw ba, e = .returned (.pointer (some ⟨p, 0, none⟩)) ∧ BM w' p bw ba n V ∧ w.heap.size ≤ p ∧ w.heap.size ≤ bw ∧ w.heap.size ≤ ba ∧ Below w.heap.size w w' := by
  have hlen := hok.len
  have hr : Bm.room n ≤ 1024 := by have := hok.max; unfold Bm.room; omega
  have hcop := copied_calls hv (by omega)
  have HL : Hid (V.length + 3 ≤ 17592186044416) := Lib.hid (by omega)
  have HOK := Lib.hid hok
  have HC := Lib.hid hcop
  obtain ⟨vp, vc, hve⟩ := hv.form
  generalize V.length = VL at hve
  subst hve
  clear hok hv hcop hlen hr
  go_enter Tryd.func27, Tryd.ntmps27
  go_upto_region 4 with (first
    | (go_at_call 19; refine HC.out.mono ?_; clear HC; rintro e w1 ⟨xi, rfl, hci, hb1⟩
       have hfr := from_calls (hci.ru HL.out) HOK.out
       have HB1 := Lib.hid hb1
       have HFR := Lib.hid hfr
       clear hci hb1 hfr)
    | (go_at_call 54; refine HFR.out.mono ?_; clear HFR; rintro e w2 ⟨p, bw, ba, rfl, hm, hp1, hp2, hp3, hb2⟩
       have HB2 : Hid (Below w.heap.size w w2) := Lib.hid (HB1.out.trans (hb2.mono HB1.out.size))
       have HP := Lib.hid (And.intro (Nat.le_trans HB1.out.size hp1) (And.intro (Nat.le_trans HB1.out.size hp2) (Nat.le_trans HB1.out.size hp3)))
       have HBM := Lib.hid hm
       clear hm hp1 hp2 hp3 hb2 HB1)
    | (go_at_call 33; refine (num_calls _).out.mono ?_; rintro e w3 ⟨rfl, hb3⟩)
    | fail)
  have HB3 : Hid (Below w.heap.size w w3) := Lib.hid (HB2.out.trans (hb3.mono HB2.out.size))
  have HM3 := Lib.hid (HBM.out.below hb3)
  clear hb3
  go_wp2_with fail
  refine wp_loop_count (fun i a X => Is (fun U => ⟨#[U 0, U 1, .slice none 0 0, U 3, U 4, U 5, U 6, .pointer (some ⟨p, 0, none⟩), U 8, .int .i64 i, U 10, U 11, U 12, U 13, U 14, U 15, U 16, U 17, U 18, U 19, U 20, U 21, U 22, U 23, U 24, U 25, U 26, U 27, U 28, U 29, U 30, U 31, U 32, U 33, U 34, U 35, U 36, U 37, U 38, U 39, U 40, U 41, U 42, U 43, U 44, U 45, U 46, U 47, U 48, U 49, U 50, U 51, U 52, U 53, U 54, U 55, U 56, U 57, U 58, U 59, U 60, U 61, U 62, U 63, U 64, U 65, U 66, U 67, U 68, U 69, U 70, U 71, U 72], []⟩) a ∧ X = w3) 0 ⟨isU (fun U => ⟨#[U 0, U 1, .slice none 0 0, U 3, U 4, U 5, U 6, .pointer (some ⟨p, 0, none⟩), U 8, .int .i64 0, U 10, U 11, U 12, U 13, U 14, U 15, U 16, U 17, U 18, U 19, U 20, U 21, U 22, U 23, U 24, U 25, U 26, U 27, U 28, U 29, U 30, U 31, U 32, U 33, U 34, U 35, U 36, U 37, U 38, U 39, U 40, U 41, U 42, U 43, U 44, U 45, U 46, U 47, U 48, U 49, U 50, U 51, U 52, U 53, U 54, U 55, U 56, U 57, U 58, U 59, U 60, U 61, U 62, U 63, U 64, U 65, U 66, U 67, U 68, U 69, U 70, U 71, U 72], []⟩) rfl, rfl⟩ (fun i a X hi => absurd hi (Nat.not_lt_zero _)) ?_
  rintro a X ⟨hU, rfl⟩
  obtain ⟨U, rfl⟩ := hU.out
  clear hU
  go_wp2_with fail
  go_ret
  exact ⟨p, bw, ba, rfl, HM3.out, HP.out.1, HP.out.2.1, HP.out.2.2, HB3.out⟩
end Go.Proofs.YtckbckdaffdjmaaDoor

/- The statement BitmapMergeUnion: the walk. -/
namespace Go.Proofs.YtckbckdaffdjmaaDoor
open Go.RowKit
set_option maxRecDepth 100000
set_option linter.unusedVariables false
set_option linter.unusedSimpArgs false

set_option maxHeartbeats 32000000 in
theorem mu_main {w : World} {n : Nat} {va vb : Value} {A B : List UInt64} (hA : Bm.Ok n A) (hB : Bm.Ok n B) (ha : RU w va A) (hb : RU w vb B) (hT : Tz w) : Pur Tryd.prog 11 #[.int .i64 n, va, vb] w (.bool true) := by
  unfold Pur
  have hmx := hA.max
  have hpos := hA.pos
  have hla := lawlisted_calls (n := n) ha (wf_nat (by omega))
  rw [show Bm.listedB n A = true by unfold Bm.listedB; rw [decide_eq_true (by omega), Int.toNat_natCast, Bm.valid_of_ok hA]; rfl] at hla
  have hlb := fun w1 (h1 : Below w.heap.size w w1) => lawlisted_calls (n := n) (hb.below h1) (wf_nat (by omega))
  rw [show Bm.listedB n B = true by unfold Bm.listedB; rw [decide_eq_true (by omega), Int.toNat_natCast, Bm.valid_of_ok hB]; rfl] at hlb
  have hlen : A.length ≤ 1024 ∧ B.length ≤ 1024 := by
    rw [hA.len, hB.len]; unfold Bm.room; omega
  obtain ⟨La, hLa⟩ : ∃ L, L = A.length := ⟨_, rfl⟩
  have hLb : B.length = La := by rw [hLa, hA.len, hB.len]
  obtain ⟨pa, ca, ea⟩ := ha.form
  obtain ⟨pb, cb, eb⟩ := hb.form
  rw [← hLa] at ea
  rw [hLb] at eb
  subst ea eb
  have hca : ∀ X, Below w.heap.size w X → Calls Tryd.prog 19 #[.slice pa La ca] X fun e w' => ∃ v', e = .returned v' ∧ Cop X.heap.size w' (.slice pa La ca) v' A ∧ Below X.heap.size X w' := fun X h => copied_calls (ha.below h) (by omega)
  have hcb : ∀ X, Below w.heap.size w X → Calls Tryd.prog 19 #[.slice pb La cb] X fun e w' => ∃ v', e = .returned v' ∧ Cop X.heap.size w' (.slice pb La cb) v' B ∧ Below X.heap.size X w' := fun X h => copied_calls (hb.below h) (by omega)
  have HLA := Lib.hid hla
  have HLB := Lib.hid hlb
  have HA := Lib.hid hA
  have HB := Lib.hid hB
  have HRA := Lib.hid ha
  have HRB := Lib.hid hb
  have HT := Lib.hid hT
  have HLEN := Lib.hid hlen
  have HLL := Lib.hid (And.intro hLa hLb)
  have HCA := Lib.hid hca
  have HCB := Lib.hid hcb
  have HCB2 := Lib.hid hcb
  have HCB3 := Lib.hid hcb
  clear hA hB ha hb hT hla hlb hlen hLa hLb hca hcb hmx hpos
  go_enter Tryd.func11, Tryd.ntmps11
  go_upto_region 2 with (first
    | (go_at_call 26; refine HLA.out.out.mono ?_; clear HLA; rintro e w1 ⟨rfl, hb1⟩
       have HB1 := Lib.hid hb1
       clear hb1)
    | fail)
  go_upto_region 5 with (first
    | (go_at_call 26; refine (HLB.out w1 HB1.out).out.mono ?_; clear HLB; rintro e w2 ⟨rfl, hb2⟩
       have HB2 : Hid (Below w.heap.size w w2) := Lib.hid (HB1.out.trans (hb2.mono HB1.out.size))
       clear hb2)
    | fail)
  go_upto_region 8 with (first
    | (go_at_call 27; refine (lawlay_nil HA.out (HRA.out.below HB2.out)).mono ?_; rintro e w3 ⟨p, bw, ba, rfl, hm, hp1, hp2, hp3, hb3⟩
       have HB3 : Hid (Below w.heap.size w w3) := Lib.hid (HB2.out.trans (hb3.mono HB2.out.size))
       have HP : Hid (∀ k, BM.At p bw ba k → w.heap.size ≤ k ∧ k < w3.heap.size) := Lib.hid (by
         have h1 := HB2.out.size; have h2 := heap_lt hm.hs; have h3 := heap_lt hm.hw; have h4 := heap_lt hm.ha
         rintro k (rfl | rfl | rfl) <;> omega)
       have HM3 := Lib.hid hm
       clear hm hp1 hp2 hp3 hb3)
    | fail)
  go_upto_region 9 with (first
    | (go_at_call 40; refine (count_calls HM3.out).out.mono ?_; rintro e w4 ⟨rfl, hb4⟩
       have HM4 := Lib.hid (HM3.out.below hb4)
       have HB4 : Hid (Below w.heap.size w w4) := Lib.hid (HB3.out.trans (hb4.mono HB3.out.size))
       have HS4 := Lib.hid hb4.size
       clear hb4)
    | fail)
  go_upto_region 10 with (first
    | (go_at_call 19; refine (HCB.out w4 HB4.out).mono ?_; rintro e w5 ⟨x5, rfl, hc5, hb5⟩
       have HC5 := Lib.hid hc5
       have HB5 := Lib.hid hb5
       clear hc5 hb5)
    | (go_at_call 43
       refine (merge_calls (HM4.out.below HB5.out) (HC5.out.ru (by have := HLEN.out; omega)) HB.out (fun g e e' => by have h1 := ((HC5.out.ou (by have := HLEN.out; omega)).lt g e).1; have h2 := (HP.out g e').2; have h3 := HS4.out; omega)).mono ?_
       rintro e w6 ⟨rfl, hm6, hmd6⟩
       have HM6 := Lib.hid hm6
       have HB6 : Hid (Below w.heap.size w w6) := Lib.hid ((HB4.out.trans (HB5.out.mono HB4.out.size)).trans (hmd6.below (Nat.le_trans HB4.out.size HB5.out.size) fun k e => (HP.out k e).1))
       have HS6 : Hid (w3.heap.size ≤ w6.heap.size) := Lib.hid (Nat.le_trans HS4.out (Nat.le_trans HB5.out.size hmd6.size))
       clear hm6 hmd6)
    | fail)
  obtain ⟨R, hR⟩ : ∃ R, R = Bm.mer A B := ⟨_, rfl⟩
  have hRok : Bm.Ok n R := by rw [hR]; exact Bm.mer_ok HA.out HB.out
  have hRl : R.length = La := by rw [hRok.len, HLL.out.1, HA.out.len]
  have HR := Lib.hid hR
  have HRO := Lib.hid hRok
  have HRL := Lib.hid hRl
  rw [← hR] at HM6 ⊢
  clear hR hRok hRl HC5 HB5 HM4 HM3
  go_upto_region 11 with (first
    | (go_at_call 40; refine (count_calls HM6.out).out.mono ?_; rintro e w7 ⟨rfl, hb7⟩
       have HM7 := Lib.hid (HM6.out.below hb7)
       have HB7 : Hid (Below w.heap.size w w7) := Lib.hid (HB6.out.trans (hb7.mono HB6.out.size))
       have HS7 : Hid (w3.heap.size ≤ w7.heap.size) := Lib.hid (Nat.le_trans HS6.out hb7.size)
       clear hb7)
    | fail)
  go_upto_region 12 with (first
    | (go_at_call 32; refine (words_calls HM7.out).mono ?_; rintro e w8 ⟨v8, rfl, hn8⟩
       have HM8 := Lib.hid (HM7.out.below hn8.bel)
       have HO8 := Lib.hid (hn8.ou (by rw [HRL.out]; have := HLEN.out; have := HLL.out; omega))
       have HB8 : Hid (Below w.heap.size w w8) := Lib.hid (HB7.out.trans (hn8.bel.mono HB7.out.size))
       have HS8 : Hid (w3.heap.size ≤ w8.heap.size) := Lib.hid (Nat.le_trans HS7.out hn8.bel.size)
       clear hn8)
    | fail)
  obtain ⟨p8, c8, e8⟩ := HO8.out.ru.form
  rw [HRL.out] at e8
  subst e8
  have hza := Bm.ones_le A
  have hzr := Bm.ones_le R
  rw [HA.out.len] at hza
  rw [HRO.out.len] at hzr
  have hrm := HM8.out.room_le.1
  have hza9 : ((Bm.ones' A : Nat) : Int) ≤ 65536 := by omega
  have hzr9 : ((Bm.ones' R : Nat) : Int) ≤ 65536 := by omega
  have hza0 : (0 : Int) ≤ ((Bm.ones' A : Nat) : Int) := Int.natCast_nonneg _
  have hzr0 : (0 : Int) ≤ ((Bm.ones' R : Nat) : Int) := Int.natCast_nonneg _
  have HZ9 := Lib.hid (And.intro hza9 (And.intro hzr9 (And.intro hza0 hzr0)))
  clear hza hzr hrm hza9 hzr9 hza0 hzr0
  have HW : Hid (La ≤ 1024) := Lib.hid (by have := HLEN.out; have := HLL.out; omega)
  have hnw : (Lit.int .i64 (n : Int)).wf = true := wf_nat (by have := HA.out.max; omega)
  have HNW := Lib.hid hnw
  clear hnw
  go_upto_region 13 with (first
    | (go_at_call_has 19 (Value.slice pa La ca)
       refine (HCA.out w8 HB8.out).mono ?_
       rintro e w9 ⟨x9, rfl, hc, hb⟩
       have hbw : Below w.heap.size w w9 := HB8.out.trans (hb.mono HB8.out.size)
       have hru := hc.ru (by have := HLEN.out; omega)
       obtain ⟨px9, cx9, ex⟩ := hru.form
       rw [← HLL.out.1] at ex
       subst ex
       have HX9 := Lib.hid hru
       have HB9 := Lib.hid hbw
       have HT9 := Lib.hid hb
       clear hc hb hbw hru)
    | (go_at_call_has 19 (Value.slice pb La cb)
       refine (HCB.out w9 HB9.out).mono ?_
       rintro e w10 ⟨x10, rfl, hc, hb⟩
       have hbw : Below w.heap.size w w10 := HB9.out.trans (hb.mono HB9.out.size)
       have hru := hc.ru (by have := HLEN.out; omega)
       obtain ⟨px10, cx10, ex⟩ := hru.form
       rw [HLL.out.2] at ex
       subst ex
       have HX10 := Lib.hid hru
       have HB10 := Lib.hid hbw
       have HT10 := Lib.hid hb
       clear hc hb hbw hru
       have hun := union_calls HNW.out (su_lit (w := w10) (xs := [Value.slice px9 La cx9, Value.slice px10 La cx10]) (Vs := [A, B]) rfl (by simp) (fun i x V hx hV => by
         match i, hx, hV with
         | 0, hx, hV => simp at hx hV; subst hx hV; exact HX9.out.below HT10.out
         | 1, hx, hV => simp at hx hV; subst hx hV; exact HX10.out
         | i + 2, hx, hV => simp at hx)) ((HT.out.below HB10.out).below (below_alloc1 _ _))
       have HUN := Lib.hid hun
       clear hun)
    | (go_at_call 21
       refine HUN.out.mono ?_
       clear HUN
       rintro e w11 ⟨vl, rfl, hvl, hb⟩
       rw [(Bm.un_ab HA.out HB.out).2, ← HR.out] at hvl
       have hbt := (below_alloc1 w10 (.cells [Value.slice px9 La cx9, Value.slice px10 La cx10].toArray 22)).trans (hb.mono (below_alloc1 _ _).size)
       have hbw : Below w.heap.size w w11 := HB10.out.trans (hbt.mono HB10.out.size)
       have HB11 := Lib.hid hbw
       have HL11 := Lib.hid (hvl.more (below_alloc1 w10 _).size)
       have HT11 := Lib.hid hbt
       clear hvl hb hbt hbw)
    | fail)
  have HBT11 : Hid (Below w8.heap.size w8 w11) := Lib.hid ((HT9.out.trans (HT10.out.mono HT9.out.size)).trans (HT11.out.mono (Nat.le_trans HT9.out.size HT10.out.size)))
  have HS11 : Hid (w3.heap.size ≤ w11.heap.size) := Lib.hid (Nat.le_trans HS8.out HBT11.out.size)
  have HM11 := Lib.hid (HM8.out.below HBT11.out)
  have HO11 := Lib.hid (HO8.out.ru.below HBT11.out)
  have HLO : Hid (∀ g, vl.ownBlock = some g → w3.heap.size ≤ g) := Lib.hid (fun g e => by have h1 := (HL11.out.lt g e).1; have := HS8.out; have := HT9.out.size; have := HT10.out.size; omega)
  obtain ⟨pl, cl, el⟩ := HL11.out.ru.form
  rw [HRL.out] at el
  subst el
  rw [(Bm.un_ab HA.out HB.out).1]
  clear HX9 HX10 HT9 HT10 HT11 HBT11 HM8 HO8 HB9 HB10
  go_upto_region 14 with (first
    | (go_at_call_has 19 (Value.slice pb La cb)
       refine (HCB.out w11 HB11.out).mono ?_
       rintro e w12 ⟨x12, rfl, hc, hb⟩
       have hbw : Below w.heap.size w w12 := HB11.out.trans (hb.mono HB11.out.size)
       have hru := hc.ru (by have := HLEN.out; omega)
       obtain ⟨px12, cx12, ex⟩ := hru.form
       rw [HLL.out.2] at ex
       subst ex
       have HX12 := Lib.hid hru
       have HB12 := Lib.hid hbw
       have HT12 := Lib.hid hb
       clear hc hb hbw hru HCB)
    | (go_at_call_has 19 (Value.slice pa La ca)
       refine (HCA.out w12 HB12.out).mono ?_
       rintro e w13 ⟨x13, rfl, hc, hb⟩
       have hbw : Below w.heap.size w w13 := HB12.out.trans (hb.mono HB12.out.size)
       have hru := hc.ru (by have := HLEN.out; omega)
       obtain ⟨px13, cx13, ex⟩ := hru.form
       rw [← HLL.out.1] at ex
       subst ex
       have HX13 := Lib.hid hru
       have HB13 := Lib.hid hbw
       have HT13 := Lib.hid hb
       clear hc hb hbw hru)
    | (go_at_call_has 19 (Value.slice pb La cb)
       refine (HCB2.out w13 HB13.out).mono ?_
       rintro e w14 ⟨x14, rfl, hc, hb⟩
       have hbw : Below w.heap.size w w14 := HB13.out.trans (hb.mono HB13.out.size)
       have hru := hc.ru (by have := HLEN.out; omega)
       obtain ⟨px14, cx14, ex⟩ := hru.form
       rw [HLL.out.2] at ex
       subst ex
       have HX14 := Lib.hid hru
       have HB14 := Lib.hid hbw
       have HT14 := Lib.hid hb
       have hun := union_calls HNW.out (su_lit (w := w14) (xs := [Value.slice px12 La cx12, Value.slice px13 La cx13, Value.slice px14 La cx14]) (Vs := [B, A, B]) rfl (by simp) (fun i x V hx hV => by
         match i, hx, hV with
         | 0, hx, hV => simp at hx hV; subst hx hV; exact (HX12.out.below HT13.out).below HT14.out
         | 1, hx, hV => simp at hx hV; subst hx hV; exact HX13.out.below HT14.out
         | 2, hx, hV => simp at hx hV; subst hx hV; exact HX14.out
         | i + 3, hx, hV => simp at hx)) ((HT.out.below HB14.out).below (below_alloc1 _ _))
       have HUN := Lib.hid hun
       clear hc hb hbw hru hun HCB2)
    | (go_at_call 21
       refine HUN.out.mono ?_
       clear HUN
       rintro e w15 ⟨vr, rfl, hvr, hb⟩
       rw [(Bm.un_bab HA.out HB.out).2, ← HR.out] at hvr
       have hbt := (below_alloc1 w14 (.cells [Value.slice px12 La cx12, Value.slice px13 La cx13, Value.slice px14 La cx14].toArray 22)).trans (hb.mono (below_alloc1 _ _).size)
       have hbw : Below w.heap.size w w15 := HB14.out.trans (hbt.mono HB14.out.size)
       have HB15 := Lib.hid hbw
       have HR15 := Lib.hid hvr.ru
       have HT15 := Lib.hid hbt
       clear hvr hb hbt hbw)
    | fail)
  have HBT15 : Hid (Below w11.heap.size w11 w15) := Lib.hid (((HT12.out.trans (HT13.out.mono HT12.out.size)).trans (HT14.out.mono (Nat.le_trans HT12.out.size HT13.out.size))).trans (HT15.out.mono (Nat.le_trans HT12.out.size (Nat.le_trans HT13.out.size HT14.out.size))))
  have HS15 : Hid (w3.heap.size ≤ w15.heap.size) := Lib.hid (Nat.le_trans HS11.out HBT15.out.size)
  have HM15 := Lib.hid (HM11.out.below HBT15.out)
  have HO15 := Lib.hid (HO11.out.below HBT15.out)
  have HL15 := Lib.hid (HL11.out.below HBT15.out)
  obtain ⟨pr, cr, er⟩ := HR15.out.form
  rw [HRL.out] at er
  subst er
  rw [(Bm.un_bab HA.out HB.out).1]
  clear HX12 HX13 HX14 HT12 HT13 HT14 HT15 HBT15 HM11 HO11 HL11 HB12 HB13 HB14
  obtain ⟨hza9, hzr9, hza0, hzr0⟩ := HZ9.out
  have hnum := fun (X : World) (e : Int) => num_calls (w := X) e
  have HNa := Lib.hid hnum
  have HNb := Lib.hid hnum
  have HNc := Lib.hid hnum
  have HNd := Lib.hid hnum
  clear hnum
  go_upto_region 16 with (first
    | (go_at_call 33; refine (HNa.out w15 _).out.mono ?_; clear HNa; rintro e w16 ⟨rfl, hb⟩; have HB16 := Lib.hid hb; clear hb)
    | (go_at_call 33; refine (HNb.out w16 _).out.mono ?_; clear HNb; rintro e w17 ⟨rfl, hb⟩; have HB17 := Lib.hid hb; clear hb)
    | (go_at_call 33; refine (HNc.out w17 _).out.mono ?_; clear HNc; rintro e w18 ⟨rfl, hb⟩; have HB18 := Lib.hid hb; clear hb)
    | fail)
  have HBX : Hid (Below w15.heap.size w15 w18) := Lib.hid ((HB16.out.trans (HB17.out.mono HB16.out.size)).trans (HB18.out.mono (Nat.le_trans HB16.out.size HB17.out.size)))
  have HM18 := Lib.hid (HM15.out.below HBX.out)
  have HO18 := Lib.hid (HO15.out.below HBX.out)
  have HL18 := Lib.hid (HL15.out.below HBX.out)
  have HR18 := Lib.hid (HR15.out.below HBX.out)
  have HS18 : Hid (w3.heap.size ≤ w18.heap.size) := Lib.hid (Nat.le_trans HS15.out HBX.out.size)
  have HBw18 : Hid (Below w.heap.size w w18) := Lib.hid (HB15.out.trans (HBX.out.mono HB15.out.size))
  have hsa := sameWords_calls HO18.out HL18.out.ru
  have HSA := Lib.hid hsa
  have HSB : Hid (∀ X, Below w18.heap.size w18 X → Pur Tryd.prog 22 #[.slice pl La cl, .slice pr La cr] X (.bool true)) := Lib.hid fun X h => sameWords_calls (HL18.out.ru.below h) (HR18.out.below h)
  clear hsa HB16 HB17 HB18 HBX HM15 HO15 HL15 HR15 HB15
  go_upto_region 18 with (first
    | (go_at_call 22; refine HSA.out.out.mono ?_; clear HSA; rintro e w19 ⟨rfl, hb⟩; have HB19 := Lib.hid hb; clear hb)
    | (go_at_call 22; refine (HSB.out w19 HB19.out).out.mono ?_; clear HSB; rintro e w20 ⟨rfl, hb⟩; have HB20 := Lib.hid hb; clear hb)
    | fail)
  have HBY : Hid (Below w18.heap.size w18 w20) := Lib.hid (HB19.out.trans (HB20.out.mono HB19.out.size))
  have HM20 := Lib.hid (HM18.out.below HBY.out)
  have HL20 := Lib.hid (HL18.out.below HBY.out)
  have HBw : Hid (Below w.heap.size w w20) := Lib.hid (HBw18.out.trans (HBY.out.mono HBw18.out.size))
  have HBS : Hid (w3.heap.size ≤ w20.heap.size) := Lib.hid (Nat.le_trans HS18.out HBY.out.size)
  clear HB19 HB20 HBY HM18 HO18 HL18 HR18 HBw18 hza9 hzr9 hza0 hzr0
  have hL9 : (La : Int) ≤ 1024 := by have := HW.out; omega
  go_wp2_with fail
  refine wp_loop_count (fun i a X => Is (fun U => ⟨#[.int .i64 n, .slice pa La ca, .slice pb La cb, U 3, U 4, U 5, .bool false, U 7, U 8, .pointer (some ⟨p, 0, none⟩), U 10, U 11, U 12, U 13, U 14, .slice pl La cl, U 16, U 17, U 18, .int .i64 i, U 20, U 21, U 22, U 23, U 24, U 25, U 26, U 27, U 28, U 29, U 30, U 31, U 32, U 33, U 34, U 35, U 36, U 37, U 38, U 39, U 40, U 41, U 42, U 43, U 44, U 45, U 46, U 47, U 48, U 49, U 50, U 51, U 52, U 53, U 54, U 55, U 56, U 57, U 58, U 59, U 60, U 61, U 62, U 63, U 64, U 65, U 66, U 67, U 68, U 69, U 70, U 71, U 72, U 73, U 74, U 75, U 76, U 77, U 78, U 79, U 80, U 81, U 82, U 83, U 84, U 85, U 86, U 87, U 88, U 89, U 90, U 91, U 92, U 93, U 94, U 95, U 96, U 97, U 98, U 99, U 100, U 101, U 102, U 103, U 104, U 105, U 106, U 107, U 108, U 109, U 110, U 111, U 112, U 113, U 114, U 115, U 116, U 117, U 118, U 119, U 120, U 121, U 122, U 123, U 124, U 125, U 126, U 127, U 128, U 129, U 130, U 131, U 132, U 133, U 134, U 135, U 136, U 137, U 138, U 139, U 140, U 141], []⟩) a ∧ Below w20.heap.size w20 X) La ⟨isU (fun U => ⟨#[.int .i64 n, .slice pa La ca, .slice pb La cb, U 3, U 4, U 5, .bool false, U 7, U 8, .pointer (some ⟨p, 0, none⟩), U 10, U 11, U 12, U 13, U 14, .slice pl La cl, U 16, U 17, U 18, .int .i64 0, U 20, U 21, U 22, U 23, U 24, U 25, U 26, U 27, U 28, U 29, U 30, U 31, U 32, U 33, U 34, U 35, U 36, U 37, U 38, U 39, U 40, U 41, U 42, U 43, U 44, U 45, U 46, U 47, U 48, U 49, U 50, U 51, U 52, U 53, U 54, U 55, U 56, U 57, U 58, U 59, U 60, U 61, U 62, U 63, U 64, U 65, U 66, U 67, U 68, U 69, U 70, U 71, U 72, U 73, U 74, U 75, U 76, U 77, U 78, U 79, U 80, U 81, U 82, U 83, U 84, U 85, U 86, U 87, U 88, U 89, U 90, U 91, U 92, U 93, U 94, U 95, U 96, U 97, U 98, U 99, U 100, U 101, U 102, U 103, U 104, U 105, U 106, U 107, U 108, U 109, U 110, U 111, U 112, U 113, U 114, U 115, U 116, U 117, U 118, U 119, U 120, U 121, U 122, U 123, U 124, U 125, U 126, U 127, U 128, U 129, U 130, U 131, U 132, U 133, U 134, U 135, U 136, U 137, U 138, U 139, U 140, U 141], []⟩) rfl, Below.refl _ _⟩ ?_ ?_
  · rintro i a X hi ⟨hU, hbx⟩
    obtain ⟨U, rfl⟩ := hU.out
    obtain ⟨x, hx⟩ : ∃ x, A[i]? = some x := ⟨_, List.getElem?_eq_getElem (by rw [← HLL.out.1]; exact hi)⟩
    obtain ⟨y, hy⟩ : ∃ y, B[i]? = some y := ⟨_, List.getElem?_eq_getElem (by rw [HLL.out.2]; exact hi)⟩
    have hz := Bm.mer_at HA.out HB.out hx hy
    rw [← HR.out] at hz
    have hbw : Below w.heap.size w X := HBw.out.trans (hbx.mono HBw.out.size)
    obtain ⟨pA, cA, eA, -, -, -, hcA⟩ := HRA.out.below hbw
    obtain ⟨pB, cB, eB, -, -, -, hcB⟩ := HRB.out.below hbw
    obtain ⟨pL, cL, eL, -, -, -, hcL⟩ := HL20.out.ru.below hbx
    simp only [Value.slice.injEq] at eA eB eL
    obtain ⟨rfl, -, rfl⟩ := eA
    obtain ⟨rfl, -, rfl⟩ := eB
    obtain ⟨rfl, -, rfl⟩ := eL
    obtain ⟨gA, oA, rfl, lA, cAc⟩ := hcA i x hx
    obtain ⟨gB, oB, rfl, lB, cBc⟩ := hcB i y hy
    obtain ⟨gL, oL, rfl, lL, cLc⟩ := hcL i _ hz
    have hor : bits .or .u64 (x.toNat : Int) (y.toNat : Int) = (((x ||| y).toNat : Nat) : Int) := by rw [u64_or_nat _ _ x.toNat_lt y.toNat_lt, UInt64.toNat_or]
    generalize x ||| y = z at *
    have hi' : (i : Int) < (La : Int) := by exact_mod_cast hi
    have hi0 : (0 : Int) ≤ (i : Int) := Int.natCast_nonneg i
    have HBX := Lib.hid hbx
    clear hU hbx hx hy hz hbw hcA hcB hcL
    go_upto_region 21 with fail
    refine wp_region_R (Below X.heap.size X) (by kernel_rfl) (by kernel_rfl) (by first | exact Below.refl _ _ | exact below_alloc1 _ _ | exact below_alloc2 _ _ _ | exact below_alloc3 _ _ _ _ | (repeat' (first | assumption | exact Below.refl _ _ | exact below_alloc1 _ _ | exact below_alloc2 _ _ _ | exact below_alloc3 _ _ _ _ | (refine Below.drew ?_) | (refine below_wb ?_ ?_) | (refine Below.alloc ?_ ?_ _) | omega | (simp; done) | (simp; omega)))) ?_
    (repeat (first | (apply wpR_pass rfl; (try simp only [Act.put, List.setIfInBounds_toArray, List.set_cons_succ, List.set_cons_zero])) | (apply wpR_val rfl; (focus (intro w1 hR; obtain ⟨hc, hf⟩ := bcellB hR; (try go_simp); (try exact Eq.refl _); done)); (try simp only [Act.put, List.setIfInBounds_toArray, List.set_cons_succ, List.set_cons_zero])) | (apply wpR_call rfl; (focus (intro w1 hR; obtain ⟨hc, hf⟩ := bcellB hR; (try go_simp); (try exact And.intro rfl rfl); done)); (focus (intro w1 hR; first | exact ().at_ (by first | omega | (simp; done) | (simp; omega)) hR)); (try simp only [Act.put, List.setIfInBounds_toArray, List.set_cons_succ, List.set_cons_zero])) | (apply wpR_val_want rfl; (focus (intro w1 hR; obtain ⟨hc, hf⟩ := bcellB hR; (try go_simp); (try exact Eq.refl _); done)); (try simp only [Act.put, List.setIfInBounds_toArray, List.set_cons_succ, List.set_cons_zero])) | (apply wpR_call_want rfl; (focus (intro w1 hR; obtain ⟨hc, hf⟩ := bcellB hR; (try go_simp); (try exact And.intro rfl rfl); done)); (focus (intro w1 hR; first | exact ().at_ (by first | omega | (simp; done) | (simp; omega)) hR)); (try simp only [Act.put, List.setIfInBounds_toArray, List.set_cons_succ, List.set_cons_zero]))))
    refine wpR_nil (fun X2 hb2 => ?_)
    have HB2' := Lib.hid hb2
    clear hb2 cAc cBc cLc hor
    go_wp2_with fail
    exact ⟨isU (fun U => ⟨#[.int .i64 n, .slice (some ⟨gA, oA, none⟩) La ca, .slice (some ⟨gB, oB, none⟩) La cb, U 3, U 4, U 5, .bool false, U 7, U 8, .pointer (some ⟨p, 0, none⟩), U 10, U 11, U 12, U 13, U 14, .slice (some ⟨gL, oL, none⟩) La cl, U 16, U 17, U 18, .int .i64 (i + 1 : Nat), U 20, U 21, U 22, U 23, U 24, U 25, U 26, U 27, U 28, U 29, U 30, U 31, U 32, U 33, U 34, U 35, U 36, U 37, U 38, U 39, U 40, U 41, U 42, U 43, U 44, U 45, U 46, U 47, U 48, U 49, U 50, U 51, U 52, U 53, U 54, U 55, U 56, U 57, U 58, U 59, U 60, U 61, U 62, U 63, U 64, U 65, U 66, U 67, U 68, U 69, U 70, U 71, U 72, U 73, U 74, U 75, U 76, U 77, U 78, U 79, U 80, U 81, U 82, U 83, U 84, U 85, U 86, U 87, U 88, U 89, U 90, U 91, U 92, U 93, U 94, U 95, U 96, U 97, U 98, U 99, U 100, U 101, U 102, U 103, U 104, U 105, U 106, U 107, U 108, U 109, U 110, U 111, U 112, U 113, U 114, U 115, U 116, U 117, U 118, U 119, U 120, U 121, U 122, U 123, U 124, U 125, U 126, U 127, U 128, U 129, U 130, U 131, U 132, U 133, U 134, U 135, U 136, U 137, U 138, U 139, U 140, U 141], []⟩) rfl, HBX.out.trans (HB2'.out.mono HBX.out.size)⟩
  · rintro a X ⟨hU, hbx⟩
    obtain ⟨U, rfl⟩ := hU.out
    have hbw : Below w.heap.size w X := HBw.out.trans (hbx.mono HBw.out.size)
    have HMX := Lib.hid (HM20.out.below hbx)
    have HLX := Lib.hid (HL20.out.below hbx)
    have HSX : Hid (w3.heap.size ≤ X.heap.size) := Lib.hid (by
      have h1 := (HP.out p (.inl rfl)).2
      have h2 := HBS.out
      have h3 := hbx.size
      omega)
    have HBX := Lib.hid hbw
    clear hU hbx hbw
    go_upto_region 24 with (first
      | (go_at_call 19; refine (HCB3.out X HBX.out).mono ?_; rintro e X5 ⟨x5, rfl, hc5, hb5⟩
         have HC5 := Lib.hid hc5
         have HB5 := Lib.hid hb5
         clear hc5 hb5)
      | (go_at_call 43
         refine (merge_calls (HMX.out.below HB5.out) (HC5.out.ru (by have := HLEN.out; omega)) HB.out (fun g e e' => by have h1 := ((HC5.out.ou (by have := HLEN.out; omega)).lt g e).1; have h2 := (HP.out g e').2; have h3 := HSX.out; omega)).mono ?_
         rintro e X6 ⟨rfl, hm6, hmd6⟩
         rw [show Bm.mer R B = R by rw [HR.out]; exact Bm.mer_twice HA.out HB.out] at hm6
         have HM6 := Lib.hid hm6
         have HMD6 := Lib.hid hmd6
         clear hm6 hmd6)
      | fail)
    rw [show Bm.mer R B = R by rw [HR.out]; exact Bm.mer_twice HA.out HB.out, Int.sub_self]
    have hb6 : Below w.heap.size w X6 := (HBX.out.trans (HB5.out.mono HBX.out.size)).trans (HMD6.out.below (Nat.le_trans HBX.out.size HB5.out.size) fun k e => (HP.out k e).1)
    have hl6 := (HLX.out.ru.below HB5.out).mod HMD6.out (fun _ g e e' => by have h1 := HLO.out g e; have h2 := (HP.out g e').2; omega)
    have HL6 := Lib.hid hl6
    have HB6' := Lib.hid hb6
    clear hb6 hl6 HC5 HB5 HMD6 HMX HLX
    go_wp2_with (first
      | (go_at_call 33; refine (HNd.out X6 _).out.mono ?_; clear HNd; rintro e X7 ⟨rfl, hb⟩; have HB7' := Lib.hid hb; clear hb)
      | (go_at_call 32; refine (words_calls (HM6.out.below HB7'.out)).mono ?_; rintro e X8 ⟨v8', rfl, hn8⟩
         have hb8 := hn8.bel
         have hr8 := hn8.ru (by rw [HRL.out]; have := HW.out; omega)
         have hsw := sameWords_calls hr8 ((HL6.out.below HB7'.out).below hb8)
         have HB8' := Lib.hid hb8
         have HSW := Lib.hid hsw
         clear hn8 hb8 hr8 hsw)
      | (go_at_call 22; refine HSW.out.out.mono ?_; clear HSW; rintro e X9 ⟨rfl, hb⟩; have HB9' := Lib.hid hb; clear hb)
      | fail)
    go_ret
    have h7 := HB6'.out.trans (HB7'.out.mono HB6'.out.size)
    have h8 := h7.trans (HB8'.out.mono h7.size)
    exact ⟨rfl, h8.trans (HB9'.out.mono h8.size)⟩
end Go.Proofs.YtckbckdaffdjmaaDoor

/- The statement BitmapMergeUnion: every input. -/
namespace Go.Proofs.YtckbckdaffdjmaaDoor
open Go.RowKit
set_option maxRecDepth 100000
set_option linter.unusedVariables false
set_option linter.unusedSimpArgs false

set_option maxHeartbeats 8000000 in
theorem mu_calls {w : World} {n : Int} {va vb : Value} {A B : List UInt64} (hn : (Lit.int .i64 n).wf = true) (ha : RU w va A) (hb : RU w vb B) (hT : Tz w) : Pur Tryd.prog 11 #[.int .i64 n, va, vb] w (.bool true) := by
  by_cases hl : Bm.listedB n A = true ∧ Bm.listedB n B = true
  · obtain ⟨h1, h2⟩ := hl
    unfold Bm.listedB at h1 h2
    simp only [Bool.and_eq_true, decide_eq_true_eq, beq_iff_eq] at h1 h2
    obtain ⟨m, rfl⟩ : ∃ m : Nat, n = m := ⟨n.toNat, by omega⟩
    rw [Int.toNat_natCast] at h1 h2
    exact mu_main (Bm.ok_of_valid (by omega) (by omega) h1.2) (Bm.ok_of_valid (by omega) (by omega) h2.2) ha hb hT
  · unfold Pur
    have hla := lawlisted_calls ha hn
    have hlb := fun w1 (h1 : Below w.heap.size w w1) => lawlisted_calls (hb.below h1) hn
    obtain ⟨pa, ca, ea⟩ := ha.form
    obtain ⟨pb, cb, eb⟩ := hb.form
    generalize A.length = La at ea
    generalize B.length = Lb at eb
    subst ea eb
    have h12 : Bm.listedB n A = false ∨ (Bm.listedB n A = true ∧ Bm.listedB n B = false) := by
      cases h1 : Bm.listedB n A
      · exact .inl rfl
      · refine .inr ⟨rfl, ?_⟩
        cases h2 : Bm.listedB n B
        · rfl
        · exact absurd ⟨h1, h2⟩ hl
    generalize Bm.listedB n A = x at *
    generalize Bm.listedB n B = y at *
    have HLA := Lib.hid hla
    have HLB := Lib.hid hlb
    clear hla hlb ha hb hT hl hn
    rcases h12 with rfl | ⟨rfl, rfl⟩
    all_goals
      go_enter Tryd.func11, Tryd.ntmps11
      go_upto_region 2 with (first
        | (go_at_call 26; refine HLA.out.out.mono ?_; clear HLA; rintro e w1 ⟨rfl, hb1⟩
           have HB1 := Lib.hid hb1
           clear hb1)
        | fail)
      go_wp2_with (first
        | (go_at_call 26; refine (HLB.out w1 HB1.out).out.mono ?_; clear HLB; rintro e w2 ⟨rfl, hb2⟩
           have HB2 : Hid (Below w.heap.size w w2) := Lib.hid (HB1.out.trans (hb2.mono HB1.out.size))
           clear hb2)
        | fail)
      go_ret
      exact ⟨rfl, HB2.out⟩
end Go.Proofs.YtckbckdaffdjmaaDoor

/- Scripts that came in; the library's table, as the row lays it. -/
namespace Go.Proofs.YtckbckdaffdjmaaDoor
open Go.RowKit Go.ChangeShapes
set_option maxRecDepth 100000
set_option linter.unusedVariables false
set_option linter.unusedSimpArgs false

theorem ops_tu : Tryd.prog.underlying 49 = some (.slice 39) := by kernel_rfl
theorem acts_tu : Tryd.prog.underlying 37 = some (.slice 134) := by kernel_rfl
theorem op_c : Tryd.prog.cellsOf 39 = 8 := by kernel_rfl
theorem op_b : Tryd.prog.bytesOf 39 = 112 := by kernel_rfl
theorem op_leaves : leaves Tryd.prog 10 39 = some [.int .i64, .bool, .int .i64, .int .i64, .other 22, .other 37, .other 37, .bool] := by kernel_rfl
section
variable {H : Type} {enc : TypeId × Value → H} {W : World} {b base : Nat} {spare : Nat → Bool} {held : Bool}
theorem acts_one {fuel : Nat} {v : Value} {x : DataW H × List MemPlace} (h : DataW.trod enc Tryd.prog W base spare held fuel 37 [v] = some x) : v.oneCell' = true := by
  rcases Go.Deep.open_slice acts_tu h with ⟨hcs, hx⟩ | ⟨a, len, cap, m, k, D, Pl, hcs, _⟩
  · simp only [List.cons.injEq, and_true] at hcs
    subst hcs; rfl
  · simp only [List.cons.injEq, and_true] at hcs
    subst hcs; rfl
theorem range_of_cells {g o n sz : Nat} {spot : Option _} {cs : List Value} (hs : spot = none) (h : W.cells? base ((⟨g, o, spot⟩ : Addr).add n) sz = some cs) : W.rangeAt g (o + n) cs := by
  subst hs
  obtain ⟨_, hlen, hc⟩ := World.cells?_some h
  intro j u hu
  have hj : j < sz := by rw [← hlen]; exact (List.getElem?_eq_some_iff.1 hu).1
  have := hc j hj
  rw [add_flat, add_flat] at this
  rw [this]; exact hu
theorem weights_elem {t e : TypeId} {D : Nat → DataW H} {len : Nat} {spr : List (DataW H)} (ht : Tryd.prog.underlying t = some (.slice e)) (hw : ∀ n ∈ (DataW.slice ((List.range len).map D) spr).weights Tryd.prog t, n ≤ reachBytes) {i : Nat} (hi : i < len) : ∀ n ∈ (D i).weights Tryd.prog e, n ≤ reachBytes := by
  intro n hn
  refine hw n ?_
  simp only [DataW.weights, ht, List.mem_cons, List.mem_append]
  right; left
  exact weights_mem_all (j := i) (by rw [List.getElem?_map, List.getElem?_range hi]; rfl) n hn
theorem act_c : Tryd.prog.cellsOf 134 = 3 := by kernel_rfl
theorem act_b : Tryd.prog.bytesOf 134 = 24 := by kernel_rfl
theorem act_leaves : leaves Tryd.prog 10 134 = some [.int .i64, .int .i64, .int .i64] := by kernel_rfl
theorem act_of_leaves {cs : List Value} (hl : LeavesW enc Tryd.prog W base spare held reachBytes [.int .i64, .int .i64, .int .i64] cs) : ∃ x : AcV, cs = acL x ∧ OkAc x := by
  obtain ⟨k, _, rfl, hk, hl1⟩ := hl.int
  obtain ⟨a, _, rfl, ha, hl2⟩ := hl1.int
  obtain ⟨c, _, rfl, hc, hl3⟩ := hl2.int
  obtain rfl := hl3.unnil
  exact ⟨⟨k, a, c⟩, rfl, hk, ha, hc⟩
/-- A slice of acts that came in. -/
theorem acts_of_trod {fuel : Nat} {v : Value} {x : DataW H × List MemPlace} (h : DataW.trod enc Tryd.prog W base spare held fuel 37 [v] = some x) (hw : ∀ n ∈ x.1.weights Tryd.prog 37, n ≤ reachBytes) : ∃ l, SlAc W v l := by
  rcases Go.Deep.open_slice acts_tu h with ⟨hcs, hx⟩ | ⟨a, n, cp, m, k, D, Pl, hcs, hba, hl, hm, hmm, hx, hall⟩
  · simp only [List.cons.injEq, and_true] at hcs
    subst hcs
    exact ⟨[], none, 0, rfl, by simp, fun i p hp => by simp at hp⟩
  · simp only [List.cons.injEq, and_true] at hcs
    subst hcs
    subst hx
    have hlm : n ≤ m := by rw [hmm]; split <;> omega
    have hn : n ≤ 17592186043904 := by
      have := hw ((n + (m - n)) * Tryd.prog.bytesOf 134) (by simp [DataW.weights, acts_tu])
      rw [act_b] at this
      simp only [reachBytes] at this
      omega
    rw [act_c] at hall
    have hE : ∀ i, i < n → ∃ o : AcV, OkAc o ∧ W.cells? base (a.add (i * 3)) 3 = some (acL o) := fun i hi => by
      obtain ⟨cs, hc, ht⟩ := hall i (by omega)
      obtain ⟨o, rfl, h1⟩ := act_of_leaves (leaves_okW 10 _ _ _ _ _ act_leaves ht (weights_elem acts_tu hw hi))
      exact ⟨o, h1, hc⟩
    haveI : Inhabited AcV := ⟨⟨0, 0, 0⟩⟩
    obtain ⟨y, hy⟩ := Go.Deep.choose_lt (α := AcV) (p := fun i y => OkAc y ∧ W.cells? base (a.add (i * 3)) 3 = some (acL y)) hE
    have hll : ((List.range n).map y).length = n := by simp
    refine ⟨(List.range n).map y, some a, cp, by rw [hll], by rw [hll]; exact hn, fun i p hp => ?_⟩
    have hi : i < n := by have := (List.getElem?_eq_some_iff.1 hp).1; rwa [hll] at this
    rw [List.getElem?_map, List.getElem?_range hi] at hp
    have hp : y i = p := by simpa using hp
    subst hp
    obtain ⟨h1, h2⟩ := hy i hi
    obtain ⟨_, _, hc0⟩ := World.cells?_some (hy 0 (by omega)).2
    have h00 := hc0 0 (by decide)
    have hsp := World.cell?_spot (w := W) (a := (a.add (0 * 3)).add 0) (v := .int .i64 (y 0).kind) (by rw [h00]; rfl)
    obtain ⟨g, off, spot⟩ := a
    have hspot : spot = none := by simpa [Addr.add] using hsp
    subst hspot
    have hr := range_of_cells rfl h2
    exact ⟨g, off, rfl, cell_lt (hr 0 _ rfl), h1, hr⟩
theorem op_of_leaves {cs : List Value} (hl : LeavesW enc Tryd.prog W base spare held reachBytes [.int .i64, .bool, .int .i64, .int .i64, .other 22, .other 37, .other 37, .bool] cs) : ∃ o : OpV, cs = opL o ∧ OkOp W o := by
  obtain ⟨k, _, rfl, hk, hl1⟩ := hl.int
  obtain ⟨s, _, rfl, hl2⟩ := hl1.bool
  obtain ⟨a, _, rfl, ha, hl3⟩ := hl2.int
  obtain ⟨c, _, rfl, hc, hl4⟩ := hl3.int
  obtain ⟨wv, _, rfl, ⟨f1, x1, hx1, hw1⟩, hl5⟩ := hl4.other
  obtain ⟨bv, _, rfl, ⟨f2, x2, hx2, hw2⟩, hl6⟩ := hl5.other
  obtain ⟨av, _, rfl, ⟨f3, x3, hx3, hw3⟩, hl7⟩ := hl6.other
  obtain ⟨g, _, rfl, hl8⟩ := hl7.bool
  obtain rfl := hl8.unnil
  obtain ⟨l, hr, hlen⟩ := ru_of_trod hx1 hw1
  exact ⟨⟨k, s, a, c, l, wv, bv, av, g⟩, rfl, hk, ha, hc, hr, hlen, acts_one hx2, acts_one hx3, acts_of_trod hx2 hw2, acts_of_trod hx3 hw3⟩
/-- A script that came in. -/
theorem open_ops {v : Value} {d : DataW H} {ps : List MemPlace} (hv : Value.okWide Tryd.prog W .any b 49 v) (h : DataW.Trod enc Tryd.prog W base spare held 49 v d ps) (hw : ∀ n ∈ d.weights Tryd.prog 49, n ≤ reachBytes) :
    ∃ l : List OpV, SlOp W v l := by
  obtain ⟨pa, n, cp, rfl⟩ := Go.WideShapes.okWide_slice ops_tu hv
  obtain ⟨fuel, hf⟩ := h
  rcases Go.Deep.open_slice ops_tu hf with ⟨hcs, hx⟩ | ⟨a, len, cap, m, k, D, Pl, hcs, hba, hl, hm, hmm, hx, hall⟩
  · simp [Value.cells] at hcs
    obtain ⟨rfl, rfl, rfl⟩ := hcs
    exact ⟨[], none, 0, rfl, by simp, fun i p hp => by simp at hp⟩
  · simp [Value.cells] at hcs
    obtain ⟨rfl, rfl, rfl⟩ := hcs
    simp only [Prod.mk.injEq] at hx
    obtain ⟨rfl, _⟩ := hx
    have hlm : n ≤ m := by rw [hmm]; split <;> omega
    have hn : n ≤ 1256584717715 := by
      have := hw ((n + (m - n)) * Tryd.prog.bytesOf 39) (by simp [DataW.weights, ops_tu])
      rw [op_b] at this
      simp only [reachBytes] at this
      omega
    rw [op_c] at hall
    have hE : ∀ i, i < n → ∃ o : OpV, OkOp W o ∧ W.cells? base (a.add (i * 8)) 8 = some (opL o) := fun i hi => by
      obtain ⟨cs, hc, ht⟩ := hall i (by omega)
      obtain ⟨o, rfl, h1⟩ := op_of_leaves (leaves_okW 10 _ _ _ _ _ op_leaves ht (weights_elem ops_tu hw hi))
      exact ⟨o, h1, hc⟩
    haveI : Inhabited OpV := ⟨⟨0, false, 0, 0, [], .slice none 0 0, .slice none 0 0, .slice none 0 0, false⟩⟩
    obtain ⟨y, hy⟩ := Go.Deep.choose_lt (α := OpV) (p := fun i y => OkOp W y ∧ W.cells? base (a.add (i * 8)) 8 = some (opL y)) hE
    have hll : ((List.range n).map y).length = n := by simp
    refine ⟨(List.range n).map y, some a, cp, by rw [hll], by rw [hll]; exact hn, fun i p hp => ?_⟩
    have hi : i < n := by have := (List.getElem?_eq_some_iff.1 hp).1; rwa [hll] at this
    rw [List.getElem?_map, List.getElem?_range hi] at hp
    have hp : y i = p := by simpa using hp
    subst hp
    obtain ⟨h1, h2⟩ := hy i hi
    obtain ⟨_, _, hc0⟩ := World.cells?_some (hy 0 (by omega)).2
    have h00 := hc0 0 (by decide)
    have hsp := World.cell?_spot (w := W) (a := (a.add (0 * 8)).add 0) (v := .int .i64 (y 0).kind) (by rw [h00]; rfl)
    obtain ⟨g, off, spot⟩ := a
    have hspot : spot = none := by simpa [Addr.add] using hsp
    subst hspot
    have hr := range_of_cells rfl h2
    exact ⟨g, off, rfl, cell_lt (hr 0 _ rfl), h1, hr⟩
end
end Go.Proofs.YtckbckdaffdjmaaDoor

/- The library's table, as the row lays it. -/
namespace Go.Proofs.YtckbckdaffdjmaaDoor
open Go.RowKit
set_option maxRecDepth 100000
set_option linter.unusedVariables false
set_option linter.unusedSimpArgs false

section
variable {H : Type} {enc : TypeId × Value → H} {P : Program} {w : World} {base : Nat} {sp : Nat → Bool} {held : Bool} {fuel : Nat}
theorem lit_cell {e : TypeId} {c : Value} {x : DataW H × List MemPlace} {l : Lit} (he : (∃ k, P.underlying e = some (.int k)) ∨ P.underlying e = some .string)
    (h : DataW.trod enc P w base sp held fuel e [c] = some x) (hx : x.1 = .lit l) : c = l.value := by
  rcases he with ⟨k, he⟩ | he
  · obtain ⟨n, hc, hxx, _⟩ := DataW.trod_int he h
    simp only [List.cons.injEq, and_true] at hc
    subst hc
    rw [hxx] at hx
    cases hx
    rfl
  · obtain ⟨s, hc, hxx, _⟩ := DataW.trod_string he h
    simp only [List.cons.injEq, and_true] at hc
    subst hc
    rw [hxx] at hx
    cases hx
    rfl
theorem lits_cells {t e : TypeId} {n : Nat} {cs : List Value} {x : DataW H × List MemPlace} (hu : P.underlying t = some (.array n e)) (hc : P.cellsOf e = 1) (hct : P.cellsOf t = n)
    (he : (∃ k, P.underlying e = some (.int k)) ∨ P.underlying e = some .string) (h : DataW.trod enc P w base sp held fuel t cs = some x) (ls : List Lit) (hx : x.1 = .agg (ls.map .lit)) :
    cs = ls.map Lit.value := by
  obtain ⟨xs, m, rfl, rfl, hl, hn, hel⟩ := DataW.trod_array hu h
  have hxs : xs.map (·.1) = ls.map .lit := by simpa using hx
  have hlen : ls.length = n := by have := congrArg List.length hxs; simp at this; omega
  apply List.ext_getElem?
  intro i
  by_cases hi : i < n
  · have h1 := hel i hi
    rw [hc, Nat.mul_one] at h1
    have hci : i < cs.length := by omega
    have e1 : (cs.drop i).take 1 = [cs[i]] := by rw [List.drop_eq_getElem_cons hci]; rfl
    rw [e1, List.getElem?_eq_getElem (by omega)] at h1
    have h2 : xs[i].1 = .lit ls[i] := by
      have := congrArg (fun l => l[i]?) hxs
      simpa [List.getElem?_map, List.getElem?_eq_getElem (show i < xs.length by omega), List.getElem?_eq_getElem (show i < ls.length by omega)] using this
    rw [List.getElem?_eq_getElem hci, List.getElem?_map, List.getElem?_eq_getElem (show i < ls.length by omega), lit_cell he h1 h2]
    rfl
  · rw [List.getElem?_eq_none (by omega), List.getElem?_eq_none (by simp; omega)]
/-- A laid variable's cells. -/
theorem laid_var {n : String} {d : DataW Unit} {r : List (String × DataW Unit)} {ps : List MemPlace} (h : DataW.LaidVars P w ((n, d) :: r) ps) {g : Nat} {t e : TypeId} {m : Nat} (ls : List Lit) (hg : P.globalNamed n = some g)
    (ht : (P.globals[g]?).map (·.type) = some t) (hu : P.underlying t = some (.array m e)) (hc : P.cellsOf e = 1) (hct : P.cellsOf t = m) (he : (∃ k, P.underlying e = some (.int k)) ∨ P.underlying e = some .string) (hd : d = .agg (ls.map .lit)) :
    (∀ i l, ls[i]? = some l → w.cell? ⟨g, i, none⟩ = some l.value) ∧ ∃ ps', DataW.LaidVars P w r ps' := by
  obtain ⟨g', t', cs, fuel, p, q, hg', ht', hv, htr, hr, _⟩ := h
  obtain rfl : g = g' := Option.some.inj (hg.symm.trans hg')
  obtain rfl : t = t' := Option.some.inj (ht.symm.trans ht')
  have hcs := lits_cells hu hc hct he htr ls hd
  refine ⟨fun i l hl => ?_, _, hr⟩
  rw [World.var?_cell hg hv i, ← Array.getElem?_toList, hcs, List.getElem?_map, hl]
  rfl
theorem laid_of {laid : List (String × DataW Unit)} (hp : (laid.all fun x => x.2.handleName?.isNone) = true) (h : laidMetH P laid w) : ∃ ps, DataW.LaidVars P w laid ps := by
  rw [MakeChecks.laidMetH_plain _ _ _ hp] at h
  obtain ⟨ps, h, _⟩ := h
  exact ⟨ps, h⟩
end
theorem tz_of {W : World} (h : laidMetH Tryd.prog [("math/bits.deBruijn64tab", Rows.laid_math_bits_deBruijn64tab)] W) : Tz W := by
  obtain ⟨ps, h⟩ := laid_of (by kernel_rfl) h
  obtain ⟨h1, -⟩ := laid_var h (g := 0) (Lib.deBruijn64tab.map fun c : Nat => Lit.int .u8 (c : Int)) (by kernel_rfl) (t := 130) (by kernel_rfl) (e := 5) (m := 64) (by kernel_rfl) (by kernel_rfl) (by kernel_rfl) (.inl ⟨.u8, by kernel_rfl⟩) rfl
  intro j hj
  refine (h1 j (.int .u8 ((Lib.deBruijn64tab.getD j 0 : Nat) : Int)) ?_).trans rfl
  rw [List.getElem?_map, List.getElem?_eq_getElem hj, List.getD_eq_getElem?_getD, List.getElem?_eq_getElem hj]; rfl
section
open Go.ChangeShapes
variable {H : Type} {enc : TypeId × Value → H} {P : Program} {W : World} {base : Nat} {spare : Nat → Bool} {held : Bool}
theorem trodAll_fiveU {t0 t1 t2 t3 t4 : TypeId} {args : Array Value} {ds : List (DataW H)} {ps : List MemPlace} (h : DataW.TrodAll enc P W base spare held [t0, t1, t2, t3, t4] args.toList ds ps) :
    ∃ v0 v1 v2 v3 v4 d0 d1 d2 d3 d4 p0 p1 p2 p3 p4, args = #[v0, v1, v2, v3, v4] ∧ ds = [d0, d1, d2, d3, d4] ∧ DataW.Trod enc P W base spare held t0 v0 d0 p0 ∧ DataW.Trod enc P W base spare held t1 v1 d1 p1 ∧ DataW.Trod enc P W base spare held t2 v2 d2 p2 ∧ DataW.Trod enc P W base spare held t3 v3 d3 p3 ∧ DataW.Trod enc P W base spare held t4 v4 d4 p4 := by
  obtain ⟨v0, x0, d0, y0, p0, q0, hargs, rfl, rfl, h0, r0⟩ := trodAll_cons h
  obtain ⟨v1, x1, d1, y1, p1, q1, rfl, rfl, rfl, h1, r1⟩ := trodAll_cons r0
  obtain ⟨v2, x2, d2, y2, p2, q2, rfl, rfl, rfl, h2, r2⟩ := trodAll_cons r1
  obtain ⟨v3, x3, d3, y3, p3, q3, rfl, rfl, rfl, h3, r3⟩ := trodAll_cons r2
  obtain ⟨v4, x4, d4, y4, p4, q4, rfl, rfl, rfl, h4, r4⟩ := trodAll_cons r3
  obtain ⟨rfl, rfl, rfl⟩ := trodAll_nil r4
  exact ⟨v0, v1, v2, v3, v4, d0, d1, d2, d3, d4, p0, p1, p2, p3, p4, by cases args; simp_all, rfl, h0, h1, h2, h3, h4⟩
end
end Go.Proofs.YtckbckdaffdjmaaDoor

/- Slices of lists of words that came in. -/
namespace Go.Proofs.YtckbckdaffdjmaaDoor
open Go.RowKit Go.ChangeShapes
set_option maxRecDepth 100000
set_option linter.unusedVariables false
set_option linter.unusedSimpArgs false

theorem lists_c1 : Tryd.prog.cellsOf 22 = 1 := by kernel_rfl
theorem lists_b : Tryd.prog.bytesOf 22 = 24 := by kernel_rfl
section
variable {H : Type} {enc : TypeId × Value → H} {W : World} {b base : Nat} {spare : Nat → Bool} {held : Bool}
theorem open_lists {v : Value} {d : DataW H} {ps : List MemPlace} (hv : Value.okWide Tryd.prog W .any b 29 v) (h : DataW.Trod enc Tryd.prog W base spare held 29 v d ps) (hw : ∀ n ∈ d.weights Tryd.prog 29, n ≤ reachBytes) :
    ∃ Vs, SU W v Vs ∧ ∀ V ∈ Vs, V.length ≤ 17592186043904 := by
  obtain ⟨pa, n, cp, rfl⟩ := Go.WideShapes.okWide_slice ls_tu hv
  obtain ⟨fuel, hf⟩ := h
  rcases Go.Deep.open_slice1 ls_tu lists_c1 hf with ⟨hcs, hx⟩ | ⟨a, len, cap, m, k, V, D, Pl, hcs, hb, hl, hm, hmm, hx, hall⟩
  · simp [Value.cells] at hcs
    obtain ⟨rfl, rfl, rfl⟩ := hcs
    exact ⟨[], ⟨none, 0, rfl, by simp, fun i p hp => by simp at hp⟩, fun V hV => by cases hV⟩
  · simp [Value.cells] at hcs
    obtain ⟨rfl, rfl, rfl⟩ := hcs
    simp only [Prod.mk.injEq] at hx
    obtain ⟨rfl, _⟩ := hx
    have hlm : n ≤ m := by rw [hmm]; split <;> omega
    have hn : n ≤ 5864062014634 := by
      have := hw ((n + (m - n)) * Tryd.prog.bytesOf 22) (by simp [DataW.weights, ls_tu])
      rw [lists_b] at this
      simp only [reachBytes] at this
      omega
    have hE : ∀ i, i < n → ∃ l : List UInt64, RU W (V i) l ∧ l.length ≤ 17592186043904 := fun i hi => by
      obtain ⟨_, ht⟩ := hall i (by omega)
      exact ru_of_trod ht (weights_elem ls_tu hw hi)
    obtain ⟨y, hy⟩ := Go.Deep.choose_lt (α := List UInt64) (p := fun i l => RU W (V i) l ∧ l.length ≤ 17592186043904) hE
    have hll : ((List.range n).map y).length = n := by simp
    have hat : ∀ (i : Nat) (U : List UInt64), ((List.range n).map y)[i]? = some U → i < n ∧ y i = U := fun i U hU => by
      have hi : i < n := by have := (List.getElem?_eq_some_iff.1 hU).1; rwa [hll] at this
      rw [List.getElem?_map, List.getElem?_range hi] at hU
      exact ⟨hi, by simpa using hU⟩
    refine ⟨(List.range n).map y, ⟨some a, cp, by rw [hll], by rw [hll]; omega, fun i U hU => ?_⟩, fun U hU => ?_⟩
    · obtain ⟨hi, rfl⟩ := hat i U hU
      obtain ⟨hc, _⟩ := hall i (by omega)
      have hsp := World.cell?_spot (hall 0 (by omega)).1
      obtain ⟨g, off, spot⟩ := a
      have hspot : spot = none := by simpa [Addr.add] using hsp
      subst hspot
      rw [add_flat] at hc
      exact ⟨g, off, _, rfl, cell_lt hc, hc, (hy i hi).1⟩
    · obtain ⟨i, hi⟩ := List.getElem?_of_mem hU
      obtain ⟨hi2, rfl⟩ := hat i U hi
      exact (hy i hi2).2
end
end Go.Proofs.YtckbckdaffdjmaaDoor
