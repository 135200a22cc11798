/- The Book of chapter 3: lists that were handed out or in; keep, where it writes at once. -/
import Derived.Test.YtckbckdaffdjmaaDoorBkU
import Derived.Deep.Cut
namespace Go.Proofs.YtckbckdaffdjmaaDoor
open Go.RowKit
set_option maxRecDepth 100000
set_option linter.unusedVariables false
set_option linter.unusedSimpArgs false

/-- The mark of list i. -/
def mkN (i : Nat) : UInt64 := UInt64.ofNat (11529215046068469761 + (i - i % 2))
/-- A Book lies at b; its blocks bear tags: itself 1, its rows 2, 3, 4, copies 8, what was written full 9, list i as it came 10 + i. -/
structure Bk3 (w : World) (b : Nat) (own : Nat → Nat) (late : Bool) (cur : Nat) (v0 v2 v3 : Value) (K0 K2 K3 : List Value) (Ws : List (List UInt64)) : Prop where
  blk : Rw w b 31 [v0, .bool late, v2, v3]
  r0 : VU 0 w v0 K0
  r2 : VU 0 w v2 K2
  r3 : VU 0 w v3 K3
  tb : own b = 1
  t0 : ∀ g, v0.ownBlock = some g → own g = 2
  t2 : ∀ g, v2.ownBlock = some g → own g = 3
  t3 : ∀ g, v3.ownBlock = some g → own g = 4
  even : K0.length % 2 = 0
  marked : ∀ (i : Nat) (v : Value), K0[i]? = some v → ∃ n, RU w v (List.replicate n (mkN i)) ∧ ∀ g, v.ownBlock = some g → g < w.heap.size ∧ own g = 9
  l2 : K2.length = Ws.length
  l3 : K3.length = Ws.length
  raw : ∀ (i : Nat) (v : Value) (l : List UInt64), cur ≤ i → K2[i]? = some v → Ws[i]? = some l → OU 0 w v l ∧ l.length + 80 ≤ 17592186044416 ∧ ∀ g, v.ownBlock = some g → own g = 10 + i
  was : ∀ (i : Nat) (v : Value) (l : List UInt64), cur ≤ i → K3[i]? = some v → Ws[i]? = some l → RU w v l ∧ ∀ g, v.ownBlock = some g → g < w.heap.size ∧ own g = 8
  hi : ∀ k, w.heap.size ≤ k → own k = 0
def Bkk (w : World) (b : Nat) (own : Nat → Nat) (late : Bool) (cur N0 N2 : Nat) : Prop := ∃ v0 v2 v3 K0 K2 K3 Ws, Bk3 w b own late cur v0 v2 v3 K0 K2 K3 Ws ∧ K0.length = N0 ∧ K2.length = N2
theorem Bk3.mod {w w' : World} {b : Nat} {own : Nat → Nat} {late : Bool} {cur : Nat} {v0 v2 v3 : Value} {K0 K2 K3 : List Value} {Ws : List (List UInt64)} {F : Nat → Prop}
    (h : Bk3 w b own late cur v0 v2 v3 K0 K2 K3 Ws) (hm : Mod F w w') (hF : ∀ k, k < w.heap.size → F k → own k = 0) : Bk3 w' b own late cur v0 v2 v3 K0 K2 K3 Ws := by
  have nf : ∀ k, k < w.heap.size → own k ≠ 0 → ¬ F k := fun k hk hn e => hn (hF k hk e)
  refine ⟨h.blk.mod hm (nf _ (heap_lt h.blk) (by rw [h.tb]; decide)), h.r0.mod hm (fun g e => nf g (h.r0.lt g e).2 (by rw [h.t0 g e]; decide)), h.r2.mod hm (fun g e => nf g (h.r2.lt g e).2 (by rw [h.t2 g e]; decide)),
    h.r3.mod hm (fun g e => nf g (h.r3.lt g e).2 (by rw [h.t3 g e]; decide)), h.tb, h.t0, h.t2, h.t3, h.even, fun i v hv => ?_, h.l2, h.l3, fun i v l hi hv hl => ?_, fun i v l hi hv hl => ?_, fun k hk => h.hi k (Nat.le_trans hm.size hk)⟩
  · obtain ⟨n, h1, h2⟩ := h.marked i v hv
    exact ⟨n, h1.mod hm (fun _ g e => nf g (h2 g e).1 (by rw [(h2 g e).2]; decide)), fun g e => ⟨Nat.lt_of_lt_of_le (h2 g e).1 hm.size, (h2 g e).2⟩⟩
  · obtain ⟨h1, h2, h3⟩ := h.raw i v l hi hv hl
    exact ⟨h1.mod hm (fun g e => nf g (h1.lt g e).2 (by rw [h3 g e]; omega)), h2, h3⟩
  · obtain ⟨h1, h2⟩ := h.was i v l hi hv hl
    exact ⟨h1.mod hm (fun _ g e => nf g (h2 g e).1 (by rw [(h2 g e).2]; decide)), fun g e => ⟨Nat.lt_of_lt_of_le (h2 g e).1 hm.size, (h2 g e).2⟩⟩
theorem Bkk.mod {w w' : World} {b : Nat} {own : Nat → Nat} {late : Bool} {cur N0 N2 : Nat} {F : Nat → Prop} (h : Bkk w b own late cur N0 N2) (hm : Mod F w w') (hF : ∀ k, k < w.heap.size → F k → own k = 0) : Bkk w' b own late cur N0 N2 := by
  obtain ⟨v0, v2, v3, K0, K2, K3, Ws, h1, h2, h3⟩ := h
  exact ⟨v0, v2, v3, K0, K2, K3, Ws, h1.mod hm hF, h2, h3⟩
theorem Bkk.below {w w' : World} {b : Nat} {own : Nat → Nat} {late : Bool} {cur N0 N2 : Nat} (h : Bkk w b own late cur N0 N2) (hb : Below w.heap.size w w') : Bkk w' b own late cur N0 N2 :=
  h.mod (F := fun _ => False) (Mod.of_below hb) (fun _ _ e => e.elim)
/-- A new Book. -/
theorem Bkk.new {w : World} {b : Nat} {late : Bool} (h : Rw w b 31 [.slice none 0 0, .bool late, .slice none 0 0, .slice none 0 0]) : Bkk w b (fun k => if k = b then 1 else 0) late 0 0 0 :=
  ⟨_, _, _, [], [], [], [], ⟨h, VU.nil_, VU.nil_, VU.nil_, by simp, fun g e => (by cases e), fun g e => (by cases e), fun g e => (by cases e), rfl, fun i v e => (by simp at e), rfl, rfl, fun i v l _ e => (by simp at e), fun i v l _ e => (by simp at e), fun k hk => by have := heap_lt h; rw [if_neg (by omega)]⟩, rfl, rfl⟩
/-- Two lists more, written full. -/
theorem Bk3.full {w w' : World} {b : Nat} {own : Nat → Nat} {cur : Nat} {v0 v2 v3 v0' x y : Value} {K0 K2 K3 : List Value} {Ws : List (List UInt64)} {n : Nat}
    (h : Bk3 w b own false cur v0 v2 v3 K0 K2 K3 Ws) (hx : ∀ g, x.ownBlock = some g → g < w.heap.size ∧ (own g = 0 ∨ own g = 10 + cur))
    (hm : Mod (fun k => k = b ∨ v0.ownBlock = some k ∨ x.ownBlock = some k) w w') (hblk : Rw w' b 31 [v0', .bool false, v2, v3]) (hr : VU 0 w' v0' (K0 ++ [x, y]))
    (h0 : v0'.ownBlock = v0.ownBlock ∨ ∃ g, v0'.ownBlock = some g ∧ w.heap.size ≤ g ∧ y.ownBlock ≠ some g) (hrx : RU w' x (List.replicate n (mkN K0.length))) (hy : OU 0 w' y (List.replicate (n + 80) (mkN K0.length)))
    (hyb : y.ownBlock = x.ownBlock ∨ ∃ g, y.ownBlock = some g ∧ w.heap.size ≤ g) :
    ∃ own', Bk3 w' b own' false (cur + 1) v0' v2 v3 (K0 ++ [x, y]) K2 K3 Ws ∧ (∀ k, k < w.heap.size → own' k = if x.ownBlock = some k then 9 else own k) := by
  have hlow : ∀ k, k < w.heap.size → (if y.ownBlock = some k ∨ x.ownBlock = some k then 9 else if v0'.ownBlock = some k then 2 else if k < w.heap.size then own k else 0) = if x.ownBlock = some k then 9 else own k := fun k hk => by
    by_cases ex : x.ownBlock = some k
    · rw [if_pos (.inr ex), if_pos ex]
    · have ey : y.ownBlock ≠ some k := fun e => by
        rcases hyb with e1 | ⟨g, e1, hg⟩
        · exact ex (e1 ▸ e)
        · rw [e1] at e; injection e with e; omega
      rw [if_neg (by intro e; exact e.elim ey ex), if_neg ex]
      by_cases e0 : v0'.ownBlock = some k
      · rw [if_pos e0]
        rcases h0 with e1 | ⟨g, e1, hg, _⟩
        · exact (h.t0 k (e1 ▸ e0)).symm
        · rw [e1] at e0; injection e0 with e0; omega
      · rw [if_neg e0, if_pos hk]
  have keepT : ∀ k t, k < w.heap.size → own k = t → t ≠ 0 → t ≠ 10 + cur → (if y.ownBlock = some k ∨ x.ownBlock = some k then 9 else if v0'.ownBlock = some k then 2 else if k < w.heap.size then own k else 0) = t := fun k t hk ht h1 h2 => by
    rw [hlow k hk, if_neg, ht]
    intro e
    rcases (hx k e).2 with e1 | e1 <;> rw [ht] at e1
    · exact h1 e1
    · exact h2 e1
  have nf : ∀ k, own k ≠ 0 → own k ≠ 1 → own k ≠ 2 → own k ≠ 10 + cur → ¬ (k = b ∨ v0.ownBlock = some k ∨ x.ownBlock = some k) := fun k a1 a2 a3 a4 e => by
    rcases e with e | e | e
    · exact a2 (by rw [e]; exact h.tb)
    · exact a3 (h.t0 k e)
    · rcases (hx k e).2 with e1 | e1
      · exact a1 e1
      · exact a4 e1
  have hev := h.even
  have hm1 : mkN (K0.length + 1) = mkN K0.length := by unfold mkN; rw [show K0.length + 1 - (K0.length + 1) % 2 = K0.length - K0.length % 2 by omega]
  refine ⟨fun k => if y.ownBlock = some k ∨ x.ownBlock = some k then 9 else if v0'.ownBlock = some k then 2 else if k < w.heap.size then own k else 0, ⟨hblk, hr, ?_, ?_, ?_, ?_, ?_, ?_, ?_, ?_, h.l2, h.l3, ?_, ?_, ?_⟩, hlow⟩
  · exact h.r2.mod hm fun g e => nf g (by rw [h.t2 g e]; decide) (by rw [h.t2 g e]; decide) (by rw [h.t2 g e]; decide) (by rw [h.t2 g e]; omega)
  · exact h.r3.mod hm fun g e => nf g (by rw [h.t3 g e]; decide) (by rw [h.t3 g e]; decide) (by rw [h.t3 g e]; decide) (by rw [h.t3 g e]; omega)
  · exact keepT b 1 (heap_lt h.blk) h.tb (by decide) (by omega)
  · intro g e
    rcases h0 with e1 | ⟨g', e1, hg, hyg⟩
    · rw [e1] at e
      exact keepT g 2 (h.r0.lt g e).2 (h.t0 g e) (by decide) (by omega)
    · rw [e1] at e
      injection e with e
      subst e
      show (if y.ownBlock = some g' ∨ x.ownBlock = some g' then 9 else if v0'.ownBlock = some g' then 2 else if g' < w.heap.size then own g' else 0) = 2
      rw [if_neg, if_pos e1]
      rintro (e | e)
      · exact hyg e
      · have := (hx g' e).1; omega
  · intro g e; exact keepT g 3 (h.r2.lt g e).2 (h.t2 g e) (by decide) (by omega)
  · intro g e; exact keepT g 4 (h.r3.lt g e).2 (h.t3 g e) (by decide) (by omega)
  · rw [List.length_append]; simp; omega
  · intro i v hv
    by_cases hi : i < K0.length
    · rw [List.getElem?_append_left hi] at hv
      obtain ⟨m, h1, h2⟩ := h.marked i v hv
      exact ⟨m, h1.mod hm (fun _ g e => nf g (by rw [(h2 g e).2]; decide) (by rw [(h2 g e).2]; decide) (by rw [(h2 g e).2]; decide) (by rw [(h2 g e).2]; omega)), fun g e => ⟨Nat.lt_of_lt_of_le (h2 g e).1 hm.size, keepT g 9 (h2 g e).1 (h2 g e).2 (by decide) (by omega)⟩⟩
    · rw [List.getElem?_append_right (by omega)] at hv
      obtain ⟨j, hj⟩ : ∃ j, j = i - K0.length := ⟨_, rfl⟩
      rw [← hj] at hv
      match j, hj, hv with
      | 0, hj, hv =>
        simp only [List.getElem?_cons_zero, Option.some.injEq] at hv
        subst hv
        rw [show i = K0.length by omega]
        exact ⟨n, hrx, fun g e => ⟨Nat.lt_of_lt_of_le (hx g e).1 hm.size, if_pos (.inr e)⟩⟩
      | 1, hj, hv =>
        simp only [List.getElem?_cons_succ, List.getElem?_cons_zero, Option.some.injEq] at hv
        subst hv
        rw [show i = K0.length + 1 by omega, hm1]
        exact ⟨n + 80, hy.ru, fun g e => ⟨(hy.lt g e).2, if_pos (.inl e)⟩⟩
      | j + 2, hj, hv => simp at hv
  · intro i v l hi hv hl
    obtain ⟨h1, h2, h3⟩ := h.raw i v l (by omega) hv hl
    exact ⟨h1.mod hm (fun g e => nf g (by rw [h3 g e]; omega) (by rw [h3 g e]; omega) (by rw [h3 g e]; omega) (by rw [h3 g e]; omega)), h2, fun g e => keepT g (10 + i) (h1.lt g e).2 (h3 g e) (by omega) (by omega)⟩
  · intro i v l hi hv hl
    obtain ⟨h1, h2⟩ := h.was i v l (by omega) hv hl
    exact ⟨h1.mod hm (fun _ g e => nf g (by rw [(h2 g e).2]; decide) (by rw [(h2 g e).2]; decide) (by rw [(h2 g e).2]; decide) (by rw [(h2 g e).2]; omega)), fun g e => ⟨Nat.lt_of_lt_of_le (h2 g e).1 hm.size, keepT g 8 (h2 g e).1 (h2 g e).2 (by decide) (by omega)⟩⟩
  · intro k hk
    have hs := hm.size
    show (if y.ownBlock = some k ∨ x.ownBlock = some k then 9 else if v0'.ownBlock = some k then 2 else if k < w.heap.size then own k else 0) = 0
    rw [if_neg, if_neg, if_neg (by omega)]
    · intro e; have := (hr.lt k e).2; omega
    · rintro (e | e)
      · have := (hy.lt k e).2; omega
      · have := (hx k e).1; omega
end Go.Proofs.YtckbckdaffdjmaaDoor
