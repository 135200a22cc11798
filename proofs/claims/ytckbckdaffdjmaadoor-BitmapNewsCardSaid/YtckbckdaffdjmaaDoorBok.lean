/- The Book, seen from outside; what makes bitmaps, whatever comes of it; the pair. -/
import Derived.Test.YtckbckdaffdjmaaDoorLfU
namespace Go.Proofs.YtckbckdaffdjmaaDoor
open Go.RowKit
set_option maxRecDepth 100000
set_option linter.unusedVariables false
set_option linter.unusedSimpArgs false

/-- A Book lies at b; own: the blocks that it knows of; at most N lists. -/
def Bok (w : World) (b : Nat) (own : Nat → Prop) (late : Bool) (N : Nat) : Prop :=
  ∃ ow N0 N2, Bkk w b ow late 0 N0 N2 ∧ (∀ k, own k ↔ ow k ≠ 0) ∧ N0 + N2 ≤ N ∧ (late = false → N2 = 0) ∧ (late = true → N0 = 0)
theorem Bok.lt {w : World} {b N : Nat} {own : Nat → Prop} {late : Bool} (h : Bok w b own late N) : ∀ k, own k → k < w.heap.size := by
  obtain ⟨ow, N0, N2, ⟨v0, v2, v3, K0, K2, K3, Ws, hb, _, _⟩, ho, _⟩ := h
  intro k hk
  rcases Nat.lt_or_ge k w.heap.size with h | h
  · exact h
  · exact absurd (hb.hi k h) ((ho k).1 hk)
theorem Bok.at_ {w : World} {b N : Nat} {own : Nat → Prop} {late : Bool} (h : Bok w b own late N) : own b := by
  obtain ⟨ow, N0, N2, ⟨v0, v2, v3, K0, K2, K3, Ws, hb, _, _⟩, ho, _⟩ := h
  exact (ho b).2 (by rw [hb.tb]; decide)
theorem Bok.mod {w w' : World} {b N : Nat} {own F : Nat → Prop} {late : Bool} (h : Bok w b own late N) (hm : Mod F w w') (hF : ∀ k, k < w.heap.size → F k → ¬ own k) : Bok w' b own late N := by
  obtain ⟨ow, N0, N2, h1, ho, hn, hl⟩ := h
  refine ⟨ow, N0, N2, h1.mod hm fun k hk hf => ?_, ho, hn, hl⟩
  have := hF k hk hf
  rw [ho] at this
  exact Decidable.not_not.1 this
theorem Bok.below {w w' : World} {b N : Nat} {own : Nat → Prop} {late : Bool} (h : Bok w b own late N) (hb : Below w.heap.size w w') : Bok w' b own late N := h.mod (F := fun _ => False) (Mod.of_below hb) (fun _ _ e => e.elim)
theorem Bok.more {w : World} {b N M : Nat} {own : Nat → Prop} {late : Bool} (h : Bok w b own late N) (hM : N ≤ M) : Bok w b own late M := by
  obtain ⟨ow, N0, N2, h1, ho, hn, hl⟩ := h
  exact ⟨ow, N0, N2, h1, ho, by omega, hl⟩
/-- What keep does. -/
structure KeepC (late : Bool) : Prop where
  run : ∀ {w : World} {b N : Nat} {own : Nat → Prop} {x : Value} {l : List UInt64}, Bok w b own late N → OU 0 w x l → l.length + 80 ≤ 17592186044416 → (∀ g, x.ownBlock = some g → ¬ own g) → N + 2 ≤ 5864062014805 →
  Calls Tryd.prog 23 #[.pointer (some ⟨b, 0, none⟩), x] w fun e w' => e = .returned (.tuple #[]) ∧ ∃ own', Bok w' b own' late (N + 2) ∧ (∀ k, k < w.heap.size → (own' k ↔ own k ∨ x.ownBlock = some k)) ∧ Mod (fun k => own k ∨ x.ownBlock = some k) w w'
theorem Bkk.zero {w : World} {b cur N0 N2 : Nat} {own : Nat → Nat} (h : Bkk w b own false cur N0 N2) (h2 : N2 = 0) : Bkk w b own false 0 N0 N2 := by
  obtain ⟨v0, v2, v3, K0, K2, K3, Ws, hb, h0, hN⟩ := h
  have hk : K2 = [] := List.eq_nil_of_length_eq_zero (hN.trans h2)
  have hw : Ws = [] := List.eq_nil_of_length_eq_zero (by rw [← hb.l2, hk]; rfl)
  subst hk hw
  exact ⟨v0, v2, v3, K0, [], K3, [], ⟨hb.blk, hb.r0, hb.r2, hb.r3, hb.tb, hb.t0, hb.t2, hb.t3, hb.even, hb.marked, hb.l2, hb.l3, fun i v l _ e => (by simp at e), fun i v l _ _ e => (by simp at e), hb.hi⟩, h0, hN⟩
theorem keepC_now : KeepC false := by
  constructor
  intro w b N own x l h hx hl hf hN
  obtain ⟨ow, N0, N2, h1, ho, hn, h2, -⟩ := h
  refine (keep_now h1 (by omega) hx hl fun g e => .inl ?_).mono ?_
  · have := hf g e
    rw [ho] at this
    exact Decidable.not_not.1 this
  · rintro e w' ⟨rfl, ow', hk, hlow, hm⟩
    refine ⟨rfl, fun k => ow' k ≠ 0, ⟨ow', N0 + 2, N2, hk.zero (h2 rfl), fun k => Iff.rfl, by omega, h2, fun e => by cases e⟩, fun k hkk => ?_, hm.mono fun k _ e => ?_⟩
    · show ow' k ≠ 0 ↔ _
      rw [hlow k hkk, ho]
      by_cases e : x.ownBlock = some k
      · simp [e]
      · simp [e]
    · rw [ho]; exact e
theorem Bok.new {w : World} {b : Nat} {late : Bool} (h : Rw w b 31 [.slice none 0 0, .bool late, .slice none 0 0, .slice none 0 0]) : Bok w b (fun k => k = b) late 0 :=
  ⟨_, 0, 0, Bkk.new h, fun k => by by_cases e : k = b <;> simp [e], Nat.le_refl _, fun _ => rfl, fun _ => rfl⟩

namespace Bm
/-- The errors of New and From. -/
def errN (n : Int) : Nat := if n < 1 ∨ 65536 < n then 1 else 0
def errF (n : Int) (V : List UInt64) : Nat := if n < 1 ∨ 65536 < n then 1 else validE n.toNat V
end Bm
/-- A bitmap or none. -/
def GotB (w w' : World) (q : Option Addr) (er : Nat) (n : Int) (W : List UInt64) : Prop :=
  (er ≠ 0 ∧ q = none) ∨ (er = 0 ∧ ∃ p bw ba, q = some ⟨p, 0, none⟩ ∧ BM w' p bw ba n.toNat W ∧ w.heap.size ≤ p ∧ w.heap.size ≤ bw ∧ w.heap.size ≤ ba)
def GotR (w w' : World) (q : Option Addr) (er : Nat) (bs : List Bool) : Prop :=
  (er ≠ 0 ∧ q = none) ∨ (er = 0 ∧ ∃ r bb, q = some ⟨r, 0, none⟩ ∧ RM w' r bb bs ∧ w.heap.size ≤ r ∧ w.heap.size ≤ bb)
section
variable {w : World} {n : Int} {v : Value} {V : List UInt64}
theorem new_any (hn : (Lit.int .i64 n).wf = true) : Calls Tryd.prog 56 #[.int .i64 n] w fun e w' => ∃ q, e = .returned (.tuple #[.pointer q, .int .i64 (Bm.errN n : Nat)]) ∧ GotB w w' q (Bm.errN n) n (List.replicate (Bm.room n.toNat) 0) ∧ Below w.heap.size w w' := by
  unfold Bm.errN
  by_cases h : n < 1 ∨ 65536 < n
  · rw [if_pos h]
    exact (new_err hn h).out.mono fun e w' ⟨he, hb⟩ => ⟨none, he, .inl ⟨by decide, rfl⟩, hb⟩
  · rw [if_neg h]
    obtain ⟨m, rfl⟩ : ∃ m : Nat, n = m := ⟨n.toNat, by omega⟩
    exact (new_calls (w := w) (n := m) (by omega) (by omega)).mono fun e w' ⟨p, bw, ba, he, hm, h1, h2, h3, hb⟩ => ⟨_, he, .inr ⟨rfl, p, bw, ba, rfl, hm, h1, h2, h3⟩, hb⟩
theorem rnew_any (hn : (Lit.int .i64 n).wf = true) : Calls Tryd.prog 57 #[.int .i64 n] w fun e w' => ∃ q, e = .returned (.tuple #[.pointer q, .int .i64 (Bm.errN n : Nat)]) ∧ GotR w w' q (Bm.errN n) (List.replicate n.toNat false) ∧ Below w.heap.size w w' := by
  unfold Bm.errN
  by_cases h : n < 1 ∨ 65536 < n
  · rw [if_pos h]
    exact (rnew_err hn h).out.mono fun e w' ⟨he, hb⟩ => ⟨none, he, .inl ⟨by decide, rfl⟩, hb⟩
  · rw [if_neg h]
    obtain ⟨m, rfl⟩ : ∃ m : Nat, n = m := ⟨n.toNat, by omega⟩
    exact (rnew_calls (w := w) (n := m) (by omega) (by omega)).mono fun e w' ⟨r, bb, he, hm, h1, h2, hb⟩ => ⟨_, he, .inr ⟨rfl, r, bb, rfl, hm, h1, h2⟩, hb⟩
theorem from_any (hn : (Lit.int .i64 n).wf = true) (hv : RU w v V) : Calls Tryd.prog 54 #[.int .i64 n, v] w fun e w' => ∃ q, e = .returned (.tuple #[.pointer q, .int .i64 (Bm.errF n V : Nat)]) ∧ GotB w w' q (Bm.errF n V) n V ∧ Below w.heap.size w w' := by
  unfold Bm.errF
  by_cases h : n < 1 ∨ 65536 < n
  · rw [if_pos h]
    exact (from_err1 hn v h).out.mono fun e w' ⟨he, hb⟩ => ⟨none, he, .inl ⟨by decide, rfl⟩, hb⟩
  · rw [if_neg h]
    obtain ⟨m, rfl⟩ : ∃ m : Nat, n = m := ⟨n.toNat, by omega⟩
    rw [Int.toNat_natCast]
    by_cases he : Bm.validE m V = 0
    · rw [he]
      exact (from_calls hv (Bm.ok_of_valid (by omega) (by omega) he)).mono fun e w' ⟨p, bw, ba, he, hm, h1, h2, h3, hb⟩ => ⟨_, he, .inr ⟨rfl, p, bw, ba, rfl, hm, h1, h2, h3⟩, hb⟩
    · exact (from_err2 (by omega) (by omega) hv he).out.mono fun e w' ⟨h1, hb⟩ => ⟨none, h1, .inl ⟨he, rfl⟩, hb⟩
theorem rfrom_any (hn : (Lit.int .i64 n).wf = true) (hv : RU w v V) : Calls Tryd.prog 55 #[.int .i64 n, v] w fun e w' => ∃ q, e = .returned (.tuple #[.pointer q, .int .i64 (Bm.errF n V : Nat)]) ∧ GotR w w' q (Bm.errF n V) (Bm.bools n.toNat V) ∧ Below w.heap.size w w' := by
  unfold Bm.errF
  by_cases h : n < 1 ∨ 65536 < n
  · rw [if_pos h]
    exact (rfrom_err1 hn v h).out.mono fun e w' ⟨he, hb⟩ => ⟨none, he, .inl ⟨by decide, rfl⟩, hb⟩
  · rw [if_neg h]
    obtain ⟨m, rfl⟩ : ∃ m : Nat, n = m := ⟨n.toNat, by omega⟩
    rw [Int.toNat_natCast]
    by_cases he : Bm.validE m V = 0
    · rw [he]
      exact (rfrom_calls hv (Bm.ok_of_valid (by omega) (by omega) he)).mono fun e w' ⟨r, bb, he, hm, h1, h2, hb⟩ => ⟨_, he, .inr ⟨rfl, r, bb, rfl, hm, h1, h2⟩, hb⟩
    · exact (rfrom_err2 (by omega) (by omega) hv he).out.mono fun e w' ⟨h1, hb⟩ => ⟨none, h1, .inl ⟨he, rfl⟩, hb⟩
end
/-- The pair of bitmaps. -/
structure Pr (w : World) (P p bw ba r bb b n : Nat) (W : List UInt64) : Prop where
  hP : Rw w P 35 [.pointer (some ⟨p, 0, none⟩), .pointer (some ⟨r, 0, none⟩), .pointer (some ⟨b, 0, none⟩)]
  hm : BM w p bw ba n W
  hr : RM w r bb (Bm.bools n W)
  dP : P ≠ p ∧ P ≠ bw ∧ P ≠ ba ∧ P ≠ r ∧ P ≠ bb
  dr : r ≠ p ∧ r ≠ bw ∧ r ≠ ba
  db : bb ≠ p ∧ bb ≠ bw ∧ bb ≠ ba
def Pr.At (P p bw ba r bb : Nat) (k : Nat) : Prop := k = P ∨ k = p ∨ k = bw ∨ k = ba ∨ k = r ∨ k = bb
theorem Pr.mod {F : Nat → Prop} {w w' : World} {P p bw ba r bb b n : Nat} {W : List UInt64} (h : Pr w P p bw ba r bb b n W) (hm : Mod F w w') (hF : ∀ k, Pr.At P p bw ba r bb k → ¬ F k) : Pr w' P p bw ba r bb b n W :=
  ⟨h.hP.mod hm (hF _ (.inl rfl)), h.hm.mod hm (hF _ (.inr (.inl rfl))) (hF _ (.inr (.inr (.inl rfl)))) (hF _ (.inr (.inr (.inr (.inl rfl))))), h.hr.mod hm (hF _ (.inr (.inr (.inr (.inr (.inl rfl)))))) (hF _ (.inr (.inr (.inr (.inr (.inr rfl)))))), h.dP, h.dr, h.db⟩
theorem Pr.below {w w' : World} {P p bw ba r bb b n : Nat} {W : List UInt64} (h : Pr w P p bw ba r bb b n W) (hb : Below w.heap.size w w') : Pr w' P p bw ba r bb b n W := h.mod (F := fun _ => False) (Mod.of_below hb) (fun _ _ => id)
theorem Pr.lt {w : World} {P p bw ba r bb b n : Nat} {W : List UInt64} (h : Pr w P p bw ba r bb b n W) : ∀ k, Pr.At P p bw ba r bb k → k < w.heap.size := by
  rintro k (rfl | rfl | rfl | rfl | rfl | rfl)
  · exact heap_lt h.hP
  · exact heap_lt h.hm.hs
  · exact heap_lt h.hm.hw
  · exact heap_lt h.hm.ha
  · exact heap_lt h.hr.hs
  · exact heap_lt h.hr.hb
end Go.Proofs.YtckbckdaffdjmaaDoor
