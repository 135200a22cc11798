/- Walks and plain laws of the packets and frames, joined from: BkK, BkKn, LfU, KpA, Bok, KpB, BmNc, CntR. -/
import Derived.Test.YtckbckdaffdjmaaDoorRk3
import Derived.Deep.Cut
/- The Book of chapter 3: lists that were handed out or in; keep, where it writes at once. -/
namespace Go.Proofs.YtckbckdaffdjmaaDoor
open Go.RowKit
set_option maxRecDepth 100000
set_option linter.unusedVariables false
set_option linter.unusedSimpArgs false

/-- The mark of list i. -/
def mkN (i : Nat) : UInt64 := UInt64.ofNat (11529215046068469761 + (i - i % 2))
/-- A Book lies at b; its blocks bear tags: itself 1, its rows 2, 3, 4, copies 8, what was written full 9, list i as it came 10 + i. -/
structure Bk3 (w : World) (b : Nat) (own : Nat → Nat) (late : Bool) (cur : Nat) (v0 v2 v3 : Value) (K0 K2 K3 : List Value) (Ws : List (List UInt64)) : Prop where
  blk : Rw w b 31 [v0, .bool late, v2, v3]
  r0 : VU 0 w v0 K0
  r2 : VU 0 w v2 K2
  r3 : VU 0 w v3 K3
  tb : own b = 1
  t0 : ∀ g, v0.ownBlock = some g → own g = 2
  t2 : ∀ g, v2.ownBlock = some g → own g = 3
  t3 : ∀ g, v3.ownBlock = some g → own g = 4
  even : K0.length % 2 = 0
  marked : ∀ (i : Nat) (v : Value), K0[i]? = some v → ∃ n, RU w v (List.replicate n (mkN i)) ∧ ∀ g, v.ownBlock = some g → g < w.heap.size ∧ own g = 9
  l2 : K2.length = Ws.length
  l3 : K3.length = Ws.length
  raw : ∀ (i : Nat) (v : Value) (l : List UInt64), cur ≤ i → K2[i]? = some v → Ws[i]? = some l → OU 0 w v l ∧ l.length + 80 ≤ 17592186044416 ∧ ∀ g, v.ownBlock = some g → own g = 10 + i
  was : ∀ (i : Nat) (v : Value) (l : List UInt64), cur ≤ i → K3[i]? = some v → Ws[i]? = some l → RU w v l ∧ ∀ g, v.ownBlock = some g → g < w.heap.size ∧ own g = 8
  hi : ∀ k, w.heap.size ≤ k → own k = 0
def Bkk (w : World) (b : Nat) (own : Nat → Nat) (late : Bool) (cur N0 N2 : Nat) : Prop := ∃ v0 v2 v3 K0 K2 K3 Ws, Bk3 w b own late cur v0 v2 v3 K0 K2 K3 Ws ∧ K0.length = N0 ∧ K2.length = N2
theorem Bk3.mod {w w' : World} {b : Nat} {own : Nat → Nat} {late : Bool} {cur : Nat} {v0 v2 v3 : Value} {K0 K2 K3 : List Value} {Ws : List (List UInt64)} {F : Nat → Prop}
    (h : Bk3 w b own late cur v0 v2 v3 K0 K2 K3 Ws) (hm : Mod F w w') (hF : ∀ k, k < w.heap.size → F k → own k = 0) : Bk3 w' b own late cur v0 v2 v3 K0 K2 K3 Ws := by
  have nf : ∀ k, k < w.heap.size → own k ≠ 0 → ¬ F k := fun k hk hn e => hn (hF k hk e)
  refine ⟨h.blk.mod hm (nf _ (heap_lt h.blk) (by rw [h.tb]; decide)), h.r0.mod hm (fun g e => nf g (h.r0.lt g e).2 (by rw [h.t0 g e]; decide)), h.r2.mod hm (fun g e => nf g (h.r2.lt g e).2 (by rw [h.t2 g e]; decide)),
    h.r3.mod hm (fun g e => nf g (h.r3.lt g e).2 (by rw [h.t3 g e]; decide)), h.tb, h.t0, h.t2, h.t3, h.even, fun i v hv => ?_, h.l2, h.l3, fun i v l hi hv hl => ?_, fun i v l hi hv hl => ?_, fun k hk => h.hi k (Nat.le_trans hm.size hk)⟩
  · obtain ⟨n, h1, h2⟩ := h.marked i v hv
    exact ⟨n, h1.mod hm (fun _ g e => nf g (h2 g e).1 (by rw [(h2 g e).2]; decide)), fun g e => ⟨Nat.lt_of_lt_of_le (h2 g e).1 hm.size, (h2 g e).2⟩⟩
  · obtain ⟨h1, h2, h3⟩ := h.raw i v l hi hv hl
    exact ⟨h1.mod hm (fun g e => nf g (h1.lt g e).2 (by rw [h3 g e]; omega)), h2, h3⟩
  · obtain ⟨h1, h2⟩ := h.was i v l hi hv hl
    exact ⟨h1.mod hm (fun _ g e => nf g (h2 g e).1 (by rw [(h2 g e).2]; decide)), fun g e => ⟨Nat.lt_of_lt_of_le (h2 g e).1 hm.size, (h2 g e).2⟩⟩
theorem Bkk.mod {w w' : World} {b : Nat} {own : Nat → Nat} {late : Bool} {cur N0 N2 : Nat} {F : Nat → Prop} (h : Bkk w b own late cur N0 N2) (hm : Mod F w w') (hF : ∀ k, k < w.heap.size → F k → own k = 0) : Bkk w' b own late cur N0 N2 := by
  obtain ⟨v0, v2, v3, K0, K2, K3, Ws, h1, h2, h3⟩ := h
  exact ⟨v0, v2, v3, K0, K2, K3, Ws, h1.mod hm hF, h2, h3⟩
theorem Bkk.below {w w' : World} {b : Nat} {own : Nat → Nat} {late : Bool} {cur N0 N2 : Nat} (h : Bkk w b own late cur N0 N2) (hb : Below w.heap.size w w') : Bkk w' b own late cur N0 N2 :=
  h.mod (F := fun _ => False) (Mod.of_below hb) (fun _ _ e => e.elim)
/-- A new Book. -/
theorem Bkk.new {w : World} {b : Nat} {late : Bool} (h : Rw w b 31 [.slice none 0 0, .bool late, .slice none 0 0, .slice none 0 0]) : Bkk w b (fun k => if k = b then 1 else 0) late 0 0 0 :=
  ⟨_, _, _, [], [], [], [], ⟨h, VU.nil_, VU.nil_, VU.nil_, by simp, fun g e => (by cases e), fun g e => (by cases e), fun g e => (by cases e), rfl, fun i v e => (by simp at e), rfl, rfl, fun i v l _ e => (by simp at e), fun i v l _ e => (by simp at e), fun k hk => by have := heap_lt h; rw [if_neg (by omega)]⟩, rfl, rfl⟩
/-- Two lists more, written full. -/
theorem Bk3.full {w w' : World} {b : Nat} {own : Nat → Nat} {cur : Nat} {v0 v2 v3 v0' x y : Value} {K0 K2 K3 : List Value} {Ws : List (List UInt64)} {n : Nat}
    (h : Bk3 w b own false cur v0 v2 v3 K0 K2 K3 Ws) (hx : ∀ g, x.ownBlock = some g → g < w.heap.size ∧ (own g = 0 ∨ own g = 10 + cur))
    (hm : Mod (fun k => k = b ∨ v0.ownBlock = some k ∨ x.ownBlock = some k) w w') (hblk : Rw w' b 31 [v0', .bool false, v2, v3]) (hr : VU 0 w' v0' (K0 ++ [x, y]))
    (h0 : v0'.ownBlock = v0.ownBlock ∨ ∃ g, v0'.ownBlock = some g ∧ w.heap.size ≤ g ∧ y.ownBlock ≠ some g) (hrx : RU w' x (List.replicate n (mkN K0.length))) (hy : OU 0 w' y (List.replicate (n + 80) (mkN K0.length)))
    (hyb : y.ownBlock = x.ownBlock ∨ ∃ g, y.ownBlock = some g ∧ w.heap.size ≤ g) :
    ∃ own', Bk3 w' b own' false (cur + 1) v0' v2 v3 (K0 ++ [x, y]) K2 K3 Ws ∧ (∀ k, k < w.heap.size → own' k = if x.ownBlock = some k then 9 else own k) := by
  have hlow : ∀ k, k < w.heap.size → (if y.ownBlock = some k ∨ x.ownBlock = some k then 9 else if v0'.ownBlock = some k then 2 else if k < w.heap.size then own k else 0) = if x.ownBlock = some k then 9 else own k := fun k hk => by
    by_cases ex : x.ownBlock = some k
    · rw [if_pos (.inr ex), if_pos ex]
    · have ey : y.ownBlock ≠ some k := fun e => by
        rcases hyb with e1 | ⟨g, e1, hg⟩
        · exact ex (e1 ▸ e)
        · rw [e1] at e; injection e with e; omega
      rw [if_neg (by intro e; exact e.elim ey ex), if_neg ex]
      by_cases e0 : v0'.ownBlock = some k
      · rw [if_pos e0]
        rcases h0 with e1 | ⟨g, e1, hg, _⟩
        · exact (h.t0 k (e1 ▸ e0)).symm
        · rw [e1] at e0; injection e0 with e0; omega
      · rw [if_neg e0, if_pos hk]
  have keepT : ∀ k t, k < w.heap.size → own k = t → t ≠ 0 → t ≠ 10 + cur → (if y.ownBlock = some k ∨ x.ownBlock = some k then 9 else if v0'.ownBlock = some k then 2 else if k < w.heap.size then own k else 0) = t := fun k t hk ht h1 h2 => by
    rw [hlow k hk, if_neg, ht]
    intro e
    rcases (hx k e).2 with e1 | e1 <;> rw [ht] at e1
    · exact h1 e1
    · exact h2 e1
  have nf : ∀ k, own k ≠ 0 → own k ≠ 1 → own k ≠ 2 → own k ≠ 10 + cur → ¬ (k = b ∨ v0.ownBlock = some k ∨ x.ownBlock = some k) := fun k a1 a2 a3 a4 e => by
    rcases e with e | e | e
    · exact a2 (by rw [e]; exact h.tb)
    · exact a3 (h.t0 k e)
    · rcases (hx k e).2 with e1 | e1
      · exact a1 e1
      · exact a4 e1
  have hev := h.even
  have hm1 : mkN (K0.length + 1) = mkN K0.length := by unfold mkN; rw [show K0.length + 1 - (K0.length + 1) % 2 = K0.length - K0.length % 2 by omega]
  refine ⟨fun k => if y.ownBlock = some k ∨ x.ownBlock = some k then 9 else if v0'.ownBlock = some k then 2 else if k < w.heap.size then own k else 0, ⟨hblk, hr, ?_, ?_, ?_, ?_, ?_, ?_, ?_, ?_, h.l2, h.l3, ?_, ?_, ?_⟩, hlow⟩
  · exact h.r2.mod hm fun g e => nf g (by rw [h.t2 g e]; decide) (by rw [h.t2 g e]; decide) (by rw [h.t2 g e]; decide) (by rw [h.t2 g e]; omega)
  · exact h.r3.mod hm fun g e => nf g (by rw [h.t3 g e]; decide) (by rw [h.t3 g e]; decide) (by rw [h.t3 g e]; decide) (by rw [h.t3 g e]; omega)
  · exact keepT b 1 (heap_lt h.blk) h.tb (by decide) (by omega)
  · intro g e
    rcases h0 with e1 | ⟨g', e1, hg, hyg⟩
    · rw [e1] at e
      exact keepT g 2 (h.r0.lt g e).2 (h.t0 g e) (by decide) (by omega)
    · rw [e1] at e
      injection e with e
      subst e
      show (if y.ownBlock = some g' ∨ x.ownBlock = some g' then 9 else if v0'.ownBlock = some g' then 2 else if g' < w.heap.size then own g' else 0) = 2
      rw [if_neg, if_pos e1]
      rintro (e | e)
      · exact hyg e
      · have := (hx g' e).1; omega
  · intro g e; exact keepT g 3 (h.r2.lt g e).2 (h.t2 g e) (by decide) (by omega)
  · intro g e; exact keepT g 4 (h.r3.lt g e).2 (h.t3 g e) (by decide) (by omega)
  · rw [List.length_append]; simp; omega
  · intro i v hv
    by_cases hi : i < K0.length
    · rw [List.getElem?_append_left hi] at hv
      obtain ⟨m, h1, h2⟩ := h.marked i v hv
      exact ⟨m, h1.mod hm (fun _ g e => nf g (by rw [(h2 g e).2]; decide) (by rw [(h2 g e).2]; decide) (by rw [(h2 g e).2]; decide) (by rw [(h2 g e).2]; omega)), fun g e => ⟨Nat.lt_of_lt_of_le (h2 g e).1 hm.size, keepT g 9 (h2 g e).1 (h2 g e).2 (by decide) (by omega)⟩⟩
    · rw [List.getElem?_append_right (by omega)] at hv
      obtain ⟨j, hj⟩ : ∃ j, j = i - K0.length := ⟨_, rfl⟩
      rw [← hj] at hv
      match j, hj, hv with
      | 0, hj, hv =>
        simp only [List.getElem?_cons_zero, Option.some.injEq] at hv
        subst hv
        rw [show i = K0.length by omega]
        exact ⟨n, hrx, fun g e => ⟨Nat.lt_of_lt_of_le (hx g e).1 hm.size, if_pos (.inr e)⟩⟩
      | 1, hj, hv =>
        simp only [List.getElem?_cons_succ, List.getElem?_cons_zero, Option.some.injEq] at hv
        subst hv
        rw [show i = K0.length + 1 by omega, hm1]
        exact ⟨n + 80, hy.ru, fun g e => ⟨(hy.lt g e).2, if_pos (.inl e)⟩⟩
      | j + 2, hj, hv => simp at hv
  · intro i v l hi hv hl
    obtain ⟨h1, h2, h3⟩ := h.raw i v l (by omega) hv hl
    exact ⟨h1.mod hm (fun g e => nf g (by rw [h3 g e]; omega) (by rw [h3 g e]; omega) (by rw [h3 g e]; omega) (by rw [h3 g e]; omega)), h2, fun g e => keepT g (10 + i) (h1.lt g e).2 (h3 g e) (by omega) (by omega)⟩
  · intro i v l hi hv hl
    obtain ⟨h1, h2⟩ := h.was i v l (by omega) hv hl
    exact ⟨h1.mod hm (fun _ g e => nf g (by rw [(h2 g e).2]; decide) (by rw [(h2 g e).2]; decide) (by rw [(h2 g e).2]; decide) (by rw [(h2 g e).2]; omega)), fun g e => ⟨Nat.lt_of_lt_of_le (h2 g e).1 hm.size, keepT g 8 (h2 g e).1 (h2 g e).2 (by decide) (by omega)⟩⟩
  · intro k hk
    have hs := hm.size
    show (if y.ownBlock = some k ∨ x.ownBlock = some k then 9 else if v0'.ownBlock = some k then 2 else if k < w.heap.size then own k else 0) = 0
    rw [if_neg, if_neg, if_neg (by omega)]
    · intro e; have := (hr.lt k e).2; omega
    · rintro (e | e)
      · have := (hy.lt k e).2; omega
      · have := (hx k e).1; omega
end Go.Proofs.YtckbckdaffdjmaaDoor

/- keep, where it writes at once. -/
namespace Go.Proofs.YtckbckdaffdjmaaDoor
open Go.RowKit
set_option maxRecDepth 100000
set_option linter.unusedVariables false
set_option linter.unusedSimpArgs false

theorem mkN_nat {n : Nat} (h : n ≤ 5864062014805) (he : n % 2 = 0) : (mkN n).toNat = 11529215046068469761 + n := by
  unfold mkN; rw [Bm.toNat_of (by omega)]; omega
theorem rep_set (l : List UInt64) (y : UInt64) {i : Nat} (h : i < l.length) : (List.replicate i y ++ l.drop i).set i y = List.replicate (i + 1) y ++ l.drop (i + 1) := by
  apply List.ext_getElem?
  intro j
  by_cases e : i = j
  · subst e
    rw [List.getElem?_set_self (by simp; omega), List.getElem?_append_left (by simp), List.getElem?_replicate, if_pos (by omega)]
  · rw [List.getElem?_set_ne e]
    by_cases hj : j < i
    · rw [List.getElem?_append_left (by simpa using hj), List.getElem?_append_left (by simp; omega), List.getElem?_replicate, List.getElem?_replicate, if_pos hj, if_pos (by omega)]
    · rw [List.getElem?_append_right (by simp; omega), List.getElem?_append_right (by simp; omega), List.getElem?_drop, List.getElem?_drop, List.length_replicate, List.length_replicate, show i + (j - i) = j by omega, show i + 1 + (j - (i + 1)) = j by omega]
theorem cell_one (w : World) (x : Value) (t : TypeId) : (w.alloc (.cells #[x] t)).cell? ⟨w.heap.size, 0, none⟩ = some x := (has_cell (heap_new w (.cells #[x] t) w.heap.size rfl) 0).trans rfl
theorem RU.keepAt {w w' : World} {q : Option Addr} {n c : Nat} {l : List UInt64} (h : RU w (.slice q n c) l) (hq : ∀ a, q = some a → a.off = 0) (hs : w.heap.size ≤ w'.heap.size)
    (hk : ∀ g i, q = some ⟨g, 0, none⟩ → i < l.length → g < w.heap.size → w'.cell? ⟨g, i, none⟩ = w.cell? ⟨g, i, none⟩) : RU w' (.slice q n c) l := by
  obtain ⟨p, c', e, h1, h2, h3, hr⟩ := h
  simp only [Value.slice.injEq] at e
  obtain ⟨rfl, rfl, rfl⟩ := e
  refine ⟨q, c, rfl, h1, h2, h3, fun i b hb => ?_⟩
  obtain ⟨g, o, e, hg, hc⟩ := hr i b hb
  have ho : o = 0 := hq _ e
  subst ho
  refine ⟨g, 0, e, by omega, ?_⟩
  rw [Nat.zero_add] at hc ⊢
  exact (hk g i e (List.getElem?_eq_some_iff.1 hb).1 hg).trans hc
theorem OU.off {B : Nat} {w : World} {q : Option Addr} {n c : Nat} {l : List UInt64} (h : OU B w (.slice q n c) l) : ∀ a, q = some a → a.off = 0 := by
  obtain ⟨⟨h0, ⟨e, hn⟩ | ⟨g, cap, cur, e, hr⟩⟩, hl⟩ := h
  · simp only [Value.slice.injEq] at e
    obtain ⟨rfl, -, -⟩ := e
    intro a ha; cases ha
  · simp only [Value.slice.injEq] at e
    obtain ⟨rfl, -, -⟩ := e
    intro a ha; injection ha with ha; rw [← ha]
set_option maxHeartbeats 4000000 in
theorem keep_now3 {w : World} {b : Nat} {own : Nat → Nat} {cur : Nat} {v0 v2 v3 : Value} {K0 K2 K3 : List Value} {Ws : List (List UInt64)} (hb : Bk3 w b own false cur v0 v2 v3 K0 K2 K3 Ws) (hN : K0.length + 2 ≤ 5864062014805) {x : Value} {l : List UInt64} (hx : OU 0 w x l) (hl : l.length + 80 ≤ 17592186044416)
    (ht : ∀ g, x.ownBlock = some g → own g = 0 ∨ own g = 10 + cur) :
    Calls Tryd.prog 23 #[.pointer (some ⟨b, 0, none⟩), x] w fun e w' => e = .returned (.tuple #[]) ∧ ∃ own' u y, Bk3 w' b own' false (cur + 1) u v2 v3 (K0 ++ [x, y]) K2 K3 Ws ∧ (∀ k, k < w.heap.size → own' k = if x.ownBlock = some k then 9 else own k) ∧ Mod (fun k => k = b ∨ v0.ownBlock = some k ∨ x.ownBlock = some k) w w' := by
  have hev := hb.even
  have hmN := mkN_nat (n := K0.length) (by omega) hev
  obtain ⟨M, hM0⟩ : ∃ M, M = mkN K0.length := ⟨_, rfl⟩
  have HM0 := Lib.hid hM0
  rw [← hM0] at hmN
  have hM1 : IntKind.u64.wrap (11529215046068469761 + (K0.length : Int)) = (M.toNat : Int) := by rw [hmN, show (11529215046068469761 : Int) + (K0.length : Int) = ((11529215046068469761 + K0.length : Nat) : Int) by omega]; exact wrap_nat (by omega)
  have hM2 : IntKind.u64.wrap (K0.length : Int) = (K0.length : Int) := wrap_nat (by omega)
  obtain ⟨p0, cp0, e0⟩ := hb.r0.form
  obtain ⟨q, c, hxe⟩ := hx.ru.form
  have hxb : ∀ g, x.ownBlock = some g → g < w.heap.size ∧ (own g = 0 ∨ own g = 10 + cur) := fun g e => ⟨(hx.lt g e).2, ht g e⟩
  have hxn : ∀ g, x.ownBlock = some g → g ≠ b ∧ v0.ownBlock ≠ some g := fun g e => by
    refine ⟨fun e' => ?_, fun e' => ?_⟩
    · rcases ht g e with h1 | h1 <;> rw [e', hb.tb] at h1 <;> omega
    · rcases ht g e with h1 | h1 <;> rw [hb.t0 g e'] at h1 <;> omega
  have lb := heap_lt hb.blk
  have c1 := hb.blk.cell (i := 1) rfl
  have c0 := hb.blk.cell (i := 0) rfl
  have HQ : Hid (∀ a, q = some a → a.off = 0) := Lib.hid (by subst hxe; exact hx.off)
  have HB := Lib.hid hb
  have HX := Lib.hid hx
  have HN := Lib.hid hN
  have HL := Lib.hid hl
  have HXB := Lib.hid hxb
  have HXN := Lib.hid hxn
  clear hb hx hN hl hxb hxn hM0 hmN hev ht
  subst hxe
  rw [e0] at c0
  go_enter Tryd.func23, Tryd.ntmps23
  go_wp2_with fail
  refine wp_loop_count (fun i a w' => Is (fun U => ⟨#[.pointer (some ⟨b, 0, none⟩), .slice q l.length c, U 2, U 3, uv M, .int .i64 i, U 6, U 7, U 8, U 9, U 10, U 11, U 12, U 13, U 14, U 15, U 16, U 17, U 18, U 19, U 20, U 21, U 22, U 23, U 24, U 25, U 26, U 27, U 28, U 29, U 30, U 31, U 32, U 33, U 34, U 35, U 36, U 37, U 38, U 39, U 40, U 41, U 42, U 43, U 44, U 45, U 46, U 47, U 48, U 49, U 50, U 51, U 52, U 53, U 54, U 55, U 56, U 57, U 58, U 59, U 60, U 61, U 62, U 63, U 64, U 65, U 66, U 67, U 68, U 69, U 70, U 71, U 72, U 73, U 74, U 75, U 76, U 77, U 78, U 79], []⟩) a ∧ OU 0 w' (.slice q l.length c) (List.replicate i M ++ l.drop i) ∧ Mod (fun k => (Value.slice q l.length c).ownBlock = some k) w w') l.length ⟨isU (fun U => ⟨#[.pointer (some ⟨b, 0, none⟩), .slice q l.length c, U 2, U 3, uv M, .int .i64 0, U 6, U 7, U 8, U 9, U 10, U 11, U 12, U 13, U 14, U 15, U 16, U 17, U 18, U 19, U 20, U 21, U 22, U 23, U 24, U 25, U 26, U 27, U 28, U 29, U 30, U 31, U 32, U 33, U 34, U 35, U 36, U 37, U 38, U 39, U 40, U 41, U 42, U 43, U 44, U 45, U 46, U 47, U 48, U 49, U 50, U 51, U 52, U 53, U 54, U 55, U 56, U 57, U 58, U 59, U 60, U 61, U 62, U 63, U 64, U 65, U 66, U 67, U 68, U 69, U 70, U 71, U 72, U 73, U 74, U 75, U 76, U 77, U 78, U 79], []⟩) rfl, by simpa using HX.out, Mod.refl _ _⟩ ?_ ?_
  · rintro i a w' hi ⟨hU, hO, hm⟩
    obtain ⟨U, rfl⟩ := hU.out
    obtain ⟨g, z, rfl, hg, hc0, hf0, hO2, hgr⟩ := hO.store (i := i) (by simp; omega) M
    rw [rep_set l M hi] at hO2
    have hm2 := hm.trans (Mod.grown (F := fun k => (Value.slice (some ⟨g, 0, none⟩) l.length c).ownBlock = some k) hgr (fun k e _ => e))
    have HO := Lib.hid hO2
    have HM := Lib.hid hm2
    have hi' : (i : Int) < (l.length : Int) := by exact_mod_cast hi
    have hi2 : (l.length : Int) ≤ 17592186044416 := by have := HL.out; omega
    have hi0 : (0 : Int) ≤ (i : Int) := Int.natCast_nonneg i
    clear hU hO hm hO2 hm2 hgr hM1 hM2 c0 c1
    go_wp2_with fail
    exact ⟨isU (fun U => ⟨#[.pointer (some ⟨b, 0, none⟩), .slice (some ⟨g, 0, none⟩) l.length c, U 2, U 3, uv M, .int .i64 (i + 1 : Nat), U 6, U 7, U 8, U 9, U 10, U 11, U 12, U 13, U 14, U 15, U 16, U 17, U 18, U 19, U 20, U 21, U 22, U 23, U 24, U 25, U 26, U 27, U 28, U 29, U 30, U 31, U 32, U 33, U 34, U 35, U 36, U 37, U 38, U 39, U 40, U 41, U 42, U 43, U 44, U 45, U 46, U 47, U 48, U 49, U 50, U 51, U 52, U 53, U 54, U 55, U 56, U 57, U 58, U 59, U 60, U 61, U 62, U 63, U 64, U 65, U 66, U 67, U 68, U 69, U 70, U 71, U 72, U 73, U 74, U 75, U 76, U 77, U 78, U 79], []⟩) rfl, HO.out, HM.out⟩
  · rintro a w' ⟨hU, hO, hm⟩
    obtain ⟨U, rfl⟩ := hU.out
    rw [List.drop_length, List.append_nil] at hO
    have HO := Lib.hid hO
    have HM := Lib.hid hm
    clear hU hO hm hM1 hM2 c0 c1
    go_wp2_with fail
    refine wp_loop_count (fun j a w1 => ∃ y, Is (fun U => ⟨#[.pointer (some ⟨b, 0, none⟩), .slice q l.length c, U 2, U 3, uv M, U 5, y, .int .i64 j, U 8, U 9, U 10, U 11, U 12, U 13, U 14, U 15, U 16, U 17, U 18, U 19, U 20, U 21, U 22, U 23, U 24, U 25, U 26, U 27, U 28, U 29, U 30, U 31, U 32, U 33, U 34, U 35, U 36, U 37, U 38, U 39, U 40, U 41, U 42, U 43, U 44, U 45, U 46, U 47, U 48, U 49, U 50, U 51, U 52, U 53, U 54, U 55, U 56, U 57, U 58, U 59, U 60, U 61, U 62, U 63, U 64, U 65, U 66, U 67, U 68, U 69, U 70, U 71, U 72, U 73, U 74, U 75, U 76, U 77, U 78, U 79], []⟩) a ∧ OU 0 w1 y (List.replicate (l.length + j) M) ∧ RU w1 (.slice q l.length c) (List.replicate l.length M) ∧ (y.ownBlock = (Value.slice q l.length c).ownBlock ∨ ∃ g, y.ownBlock = some g ∧ w.heap.size ≤ g) ∧ Mod (fun k => (Value.slice q l.length c).ownBlock = some k) w w1) 80 ⟨.slice q l.length c, isU (fun U => ⟨#[.pointer (some ⟨b, 0, none⟩), .slice q l.length c, U 2, U 3, uv M, U 5, .slice q l.length c, .int .i64 0, U 8, U 9, U 10, U 11, U 12, U 13, U 14, U 15, U 16, U 17, U 18, U 19, U 20, U 21, U 22, U 23, U 24, U 25, U 26, U 27, U 28, U 29, U 30, U 31, U 32, U 33, U 34, U 35, U 36, U 37, U 38, U 39, U 40, U 41, U 42, U 43, U 44, U 45, U 46, U 47, U 48, U 49, U 50, U 51, U 52, U 53, U 54, U 55, U 56, U 57, U 58, U 59, U 60, U 61, U 62, U 63, U 64, U 65, U 66, U 67, U 68, U 69, U 70, U 71, U 72, U 73, U 74, U 75, U 76, U 77, U 78, U 79], []⟩) rfl, HO.out, HO.out.ru, .inl rfl, HM.out⟩ ?_ ?_
    · rintro j a w1 hj ⟨y, hU, hO, hR, hyb, hm⟩
      obtain ⟨U, rfl⟩ := hU.out
      have hb1 := below_alloc1 w1 (.cells #[uv M] 58)
      have hO1 := hO.below hb1
      have hR1 := hR.below hb1
      have hlit := RU.lit w1 #[uv M] [M] 1 rfl rfl (by simp)
      have hlen : (List.replicate (l.length + j) M).length + 1 ≤ 17592186044416 := by rw [List.length_replicate]; have := HL.out; omega
      have hj' : (j : Int) < 80 := by exact_mod_cast hj
      have hj0 : (0 : Int) ≤ (j : Int) := Int.natCast_nonneg j
      have HO1 := Lib.hid hO1
      have HR1 := Lib.hid hR1
      have HLT := Lib.hid hlit
      have HLN := Lib.hid hlen
      have HM1 := Lib.hid hm
      have HYB := Lib.hid hyb
      have HB1 := Lib.hid hb1
      clear hU hO hR hyb hm hb1 hO1 hR1 hlit hlen
      go_wp2_with (first | (at_builtin; refine wpList_append_word (v := y) rfl (.tmp 56) (.tmp 58) rfl rfl rfl rfl HO1.out HLT.out HLN.out (Nat.zero_le _) ?_; intro y2 w2 hO2 hg2 hat2 hsame2) | fail)
      rw [← List.replicate_succ', Nat.add_assoc] at hO2
      have hsz1 : w.heap.size ≤ (w1.alloc (.cells #[uv M] 58)).heap.size := Nat.le_trans HM1.out.size HB1.out.size
      have hR2 : RU w2 (.slice q l.length c) (List.replicate l.length M) := by
        refine HR1.out.keepAt HQ.out hg2.size fun g i eg hi hlt => ?_
        by_cases e : y.ownBlock = some g
        · exact hsame2 g i e (by simp at hi ⊢; omega)
        · exact World.cell?_of_block (hg2.block g hlt (fun e' => e e'.symm))
      refine ⟨y2, isU (fun U => ⟨#[.pointer (some ⟨b, 0, none⟩), .slice q l.length c, U 2, U 3, uv M, U 5, y2, .int .i64 (j + 1 : Nat), U 8, U 9, U 10, U 11, U 12, U 13, U 14, U 15, U 16, U 17, U 18, U 19, U 20, U 21, U 22, U 23, U 24, U 25, U 26, U 27, U 28, U 29, U 30, U 31, U 32, U 33, U 34, U 35, U 36, U 37, U 38, U 39, U 40, U 41, U 42, U 43, U 44, U 45, U 46, U 47, U 48, U 49, U 50, U 51, U 52, U 53, U 54, U 55, U 56, U 57, U 58, U 59, U 60, U 61, U 62, U 63, U 64, U 65, U 66, U 67, U 68, U 69, U 70, U 71, U 72, U 73, U 74, U 75, U 76, U 77, U 78, U 79], []⟩) rfl, hO2, hR2, ?_, ?_⟩
      · rcases hat2 with e | e
        · rw [e]; exact HYB.out
        · exact .inr ⟨_, e, hsz1⟩
      · refine HM1.out.trans' ((Mod.of_below HB1.out).trans (Mod.grown hg2 fun k e _ => ?_))
        rcases HYB.out with e1 | ⟨g, e1, hg⟩
        · exact .inl (e1 ▸ e)
        · rw [e1] at e; injection e with e; exact .inr (by omega)
    · rintro a w1 ⟨y, hU, hO, hR, hyb, hm⟩
      obtain ⟨U, rfl⟩ := hU.out
      have hb := HB.out
      have nf : ∀ k, (k = b ∨ v0.ownBlock = some k) → ¬ (Value.slice q l.length c).ownBlock = some k := fun k e e' => by
        have := HXN.out k e'
        rcases e with e | e
        · exact this.1 e
        · exact this.2 e
      have hblk := hb.blk.mod hm (nf b (.inl rfl))
      have hr0 := hb.r0.mod hm (fun g e => nf g (.inr e))
      have hvb : ∀ g, v0.ownBlock = some g → g ≠ b := fun g e e' => by have h1 := hb.t0 g e; rw [e', hb.tb] at h1; cases h1
      have hvlt := fun g e => ((hb.r0.lt g e).2 : g < w.heap.size)
      have c0 := hblk.cell (i := 0) rfl
      have hba := below_alloc1 w1 (.cells #[Value.slice q l.length c] 22)
      have hra := hr0.mod (F := fun _ => False) (Mod.of_below hba) (fun _ _ => id)
      have hlen0 : K0.length + 1 ≤ 5864062014805 := by have := HN.out; omega
      rw [e0] at c0
      have HBK := Lib.hid hblk
      have HR0 := Lib.hid hra
      have HBA := Lib.hid hba
      have HM1 := Lib.hid hm
      have HYB := Lib.hid hyb
      have HO1 := Lib.hid hO
      have HR1 := Lib.hid hR
      have HL0 := Lib.hid hlen0
      have HNF := Lib.hid nf
      have HVB := Lib.hid hvb
      have HVL := Lib.hid hvlt
      clear hb nf hblk hr0 hba hra hm hyb hO hR hlen0 hvb hvlt
      obtain ⟨yp, yc, hy⟩ := HO1.out.ru.form
      obtain ⟨yn, hyn⟩ : ∃ yn, yn = (List.replicate (l.length + 80) M).length := ⟨_, rfl⟩
      rw [← hyn] at hy
      have HY := Lib.hid hy
      clear hyn
      subst hy
      go_upto_region 14 with (first
        | (at_builtin
           refine wpList_append_VU (v := v0) rfl (.tmp 64) (.tmp 66) rfl rfl w1.heap.size e0.symm rfl HR0.out (cell_one _ _ _) rfl HL0.out (Nat.zero_le _) ?_
           intro u2 w2 hu2 hg2 hat2
           have hblk2 : Rw w2 b 31 [v0, .bool false, v2, v3] := (HBK.out.below HBA.out).mod (F := fun k => v0.ownBlock = some k) (Mod.grown hg2 fun k e _ => e) (fun e => HVB.out b e rfl)
           have c2 := hblk2.cell (i := 0) rfl
           have f2 := hblk2.frozen 0
           have HU2 := Lib.hid hu2
           have HG2 := Lib.hid hg2
           have HA2 := Lib.hid hat2
           have HB2 := Lib.hid hblk2
           obtain ⟨p2, cp2, eu2⟩ := hu2.form
           clear hu2 hg2 hat2 hblk2
           rw [List.length_append, List.length_singleton] at eu2
           have EU2 := Lib.hid eu2
           rw [eu2])
        | fail)
      have hx1 : (w1.alloc (.cells #[Value.slice q l.length c] 22)).heap.size = w1.heap.size + 1 := by simp
      have hws : w.heap.size ≤ w1.heap.size := HM1.out.size
      have hu2b : ∀ g, u2.ownBlock = some g → v0.ownBlock = some g ∨ w1.heap.size < g := fun g e => by
        rcases HA2.out with e1 | e1
        · exact .inl (e1 ▸ e)
        · rw [e1, hx1] at e; injection e with e; exact .inr (by omega)
      have hu2n : ∀ g, u2.ownBlock = some g → g ≠ b := fun g e e' => by
        rcases hu2b g e with e1 | e1
        · exact HVB.out g e1 e'
        · omega
      have hyn : ∀ g, (Value.slice yp yn yc).ownBlock = some g → g ≠ b ∧ v0.ownBlock ≠ some g := fun g e => by
        rcases HYB.out with e1 | ⟨g', e1, hg⟩
        · exact HXN.out g (e1 ▸ e)
        · rw [e1] at e; injection e with e
          exact ⟨by omega, fun e2 => by have := HVL.out g e2; omega⟩
      have hylt : ∀ g, (Value.slice yp yn yc).ownBlock = some g → g < w1.heap.size := fun g e => (HO1.out.lt g e).2
      have hblk3 := HB2.out.set 0 u2
      have hu3 : VU 0 (w2.setCell ⟨b, 0, none⟩ u2) u2 (K0 ++ [Value.slice q l.length c]) := HU2.out.mod (F := fun k => k = b) (Mod.setCell _ _ _ _ rfl) hu2n
      have hm3 : Mod (fun k => k = b ∨ v0.ownBlock = some k) w1 (w2.setCell ⟨b, 0, none⟩ u2) :=
        (Mod.of_below HBA.out).trans ((Mod.grown HG2.out fun k e _ => .inr e).trans (Mod.setCell _ _ _ _ (.inl rfl)))
      have hO3 := HO1.out.mod hm3 (fun g e e' => by
        rcases e' with e' | e'
        · exact (hyn g e).1 e'
        · exact (hyn g e).2 e')
      have hR3 := HR1.out.mod hm3 (fun _ g e e' => HNF.out g e' e)
      have hlen3 : (K0 ++ [Value.slice q l.length c]).length + 1 ≤ 5864062014805 := by have := HN.out; rw [List.length_append, List.length_singleton]; omega
      rw [← EU2.out] 
      have c3 := hblk3.cell (i := 0) rfl
      obtain ⟨w3, hw3⟩ : ∃ w3, w3 = w2.setCell ⟨b, 0, none⟩ u2 := ⟨_, rfl⟩
      rw [← hw3] at hblk3 hu3 hm3 hO3 hR3 c3 ⊢
      have hba3 := below_alloc1 w3 (.cells #[Value.slice yp yn yc] 22)
      have hra3 := hu3.mod (F := fun _ => False) (Mod.of_below hba3) (fun _ _ => id)
      have HBK3 := Lib.hid hblk3
      have HBA3 := Lib.hid hba3
      have HRA3 := Lib.hid hra3
      have HO3 := Lib.hid hO3
      have HR3 := Lib.hid hR3
      have HL3 := Lib.hid hlen3
      have HM3 := Lib.hid hm3
      have HYN := Lib.hid hyn
      have HYL := Lib.hid hylt
      have HUB := Lib.hid hu2b
      have HUN := Lib.hid hu2n
      have HWS := Lib.hid hws
      rw [eu2] at c3
      clear hblk3 hu3 hm3 hO3 hR3 hlen3 hw3 hba3 hra3 hyn hylt hu2b hu2n hx1 hws c2 f2 c0
      go_wp2_with (first
        | (at_builtin
           refine wpList_append_VU (v := u2) rfl (.tmp 74) (.tmp 76) rfl rfl w3.heap.size EU2.out.symm rfl HRA3.out (cell_one _ _ _) rfl HL3.out (Nat.zero_le _) ?_
           intro u4 w4 hu4 hg4 hat4
           have hblk4 : Rw w4 b 31 [u2, .bool false, v2, v3] := (HBK3.out.below HBA3.out).mod (F := fun k => u2.ownBlock = some k) (Mod.grown hg4 fun k e _ => e) (fun e => HUN.out b e rfl)
           have c4 := hblk4.cell (i := 0) rfl
           have f4 := hblk4.frozen 0
           have HU4 := Lib.hid hu4
           have HG4 := Lib.hid hg4
           have HA4 := Lib.hid hat4
           have HB4 := Lib.hid hblk4
           obtain ⟨p4, cp4, eu4⟩ := hu4.form
           clear hu4 hg4 hat4 hblk4
           rw [List.length_append, List.length_append, List.length_singleton, List.length_singleton] at eu4
           have EU4 := Lib.hid eu4
           rw [eu4])
        | fail)
      go_end0
      rw [← EU4.out]
      refine ⟨rfl, ?_⟩
      obtain ⟨w5, hw5⟩ : ∃ w5, w5 = w4.setCell ⟨b, 0, none⟩ u4 := ⟨_, rfl⟩
      have hb := HB.out
      have hs3 : (w3.alloc (.cells #[Value.slice yp yn yc] 22)).heap.size = w3.heap.size + 1 := by simp
      have hw13 : w1.heap.size ≤ w3.heap.size := HM3.out.size
      have hu4b : ∀ g, u4.ownBlock = some g → u2.ownBlock = some g ∨ w3.heap.size < g := fun g e => by
        rcases HA4.out with e1 | e1
        · exact .inl (e1 ▸ e)
        · rw [e1, hs3] at e; injection e with e; exact .inr (by omega)
      have hu4n : ∀ g, u4.ownBlock = some g → g ≠ b := fun g e e' => by
        rcases hu4b g e with e1 | e1
        · exact HUN.out g e1 e'
        · have := HWS.out; omega
      have hm5 : Mod (fun k => k = b ∨ v0.ownBlock = some k ∨ w1.heap.size ≤ k) w3 w5 := by
        rw [hw5]
        refine (Mod.of_below HBA3.out).trans ((Mod.grown HG4.out fun k e _ => ?_).trans (Mod.setCell _ _ _ _ (.inl rfl)))
        rcases HUB.out k e with e1 | e1
        · exact .inr (.inl e1)
        · exact .inr (.inr (by omega))
      have hm15 : Mod (fun k => k = b ∨ v0.ownBlock = some k) w1 w5 := HM3.out.trans' (hm5.mono fun k _ e => by
        rcases e with e | e | e
        · exact .inl (.inl e)
        · exact .inl (.inr e)
        · exact .inr e)
      have hmw : Mod (fun k => k = b ∨ v0.ownBlock = some k ∨ (Value.slice q l.length c).ownBlock = some k) w w5 :=
        (HM1.out.mono fun k _ e => .inr (.inr e)).trans (hm15.mono fun k _ e => e.elim .inl fun e => .inr (.inl e))
      have hu5 : VU 0 w5 u4 (K0 ++ [Value.slice q l.length c, Value.slice yp yn yc]) := by
        rw [hw5]
        have := HU4.out.mod (F := fun k => k = b) (Mod.setCell w4 b 0 u4 rfl) hu4n
        rwa [List.append_assoc] at this
      have hblk5 : Rw w5 b 31 [u4, .bool false, v2, v3] := by rw [hw5]; exact HB4.out.set 0 u4
      have hylt := HYL.out
      have hnot : ∀ g, ((Value.slice yp yn yc).ownBlock = some g ∨ (Value.slice q l.length c).ownBlock = some g) → g < w1.heap.size → ¬ (g = b ∨ v0.ownBlock = some g) := fun g e hg e' => by
        rcases e with e | e
        · rcases e' with e' | e'
          · exact (HYN.out g e).1 e'
          · exact (HYN.out g e).2 e'
        · exact HNF.out g e' e
      have hO5 : OU 0 w5 (Value.slice yp yn yc) (List.replicate (l.length + 80) M) := HO1.out.mod hm15 fun g e => hnot g (.inl e) (hylt g e)
      have hxl : ∀ g, (Value.slice q l.length c).ownBlock = some g → g < w1.heap.size := fun g e => by have := (HXB.out g e).1; have := HWS.out; omega
      have hR5 : RU w5 (Value.slice q l.length c) (List.replicate l.length M) := HR1.out.mod hm15 fun _ g e => hnot g (.inr e) (hxl g e)
      rw [← hw5]
      rw [HM0.out] at hO5 hR5
      have h0 : u4.ownBlock = v0.ownBlock ∨ ∃ g, u4.ownBlock = some g ∧ w.heap.size ≤ g ∧ (Value.slice yp yn yc).ownBlock ≠ some g := by
        rcases HA4.out with e1 | e1
        · rcases HA2.out with e2 | e2
          · exact .inl (e1.trans e2)
          · refine .inr ⟨_, e1.trans e2, Nat.le_trans HWS.out HBA.out.size, fun e => ?_⟩
            have h1 := hylt _ e
            have h2 := HBA.out.size
            omega
        · refine .inr ⟨_, e1, Nat.le_trans (Nat.le_trans HWS.out hw13) HBA3.out.size, fun e => ?_⟩
          have h1 := hylt _ e
          have h2 := HBA3.out.size
          omega
      obtain ⟨own', h1, h2⟩ := hb.full (x := Value.slice q l.length c) (y := Value.slice yp yn yc) HXB.out hmw hblk5 hu5 h0 hR5 hO5 HYB.out
      exact ⟨own', ⟨u4, _, h1⟩, h2, by rw [← e0]; exact hmw⟩
theorem keep_now {w : World} {b : Nat} {own : Nat → Nat} {cur N0 N2 : Nat} (h : Bkk w b own false cur N0 N2) (hN : N0 + 2 ≤ 5864062014805) {x : Value} {l : List UInt64} (hx : OU 0 w x l) (hl : l.length + 80 ≤ 17592186044416)
    (ht : ∀ g, x.ownBlock = some g → own g = 0 ∨ own g = 10 + cur) :
    Calls Tryd.prog 23 #[.pointer (some ⟨b, 0, none⟩), x] w fun e w' => e = .returned (.tuple #[]) ∧ ∃ own', Bkk w' b own' false (cur + 1) (N0 + 2) N2 ∧ (∀ k, k < w.heap.size → own' k = if x.ownBlock = some k then 9 else own k) ∧ Mod (fun k => own k ≠ 0 ∨ x.ownBlock = some k) w w' := by
  obtain ⟨v0, v2, v3, K0, K2, K3, Ws, hb, hN0, hN2⟩ := h
  subst hN0 hN2
  refine (keep_now3 hb hN hx hl ht).mono fun e w' ⟨he, own', u, y, h1, h2, hm⟩ => ⟨he, own', ⟨u, v2, v3, _, _, _, _, h1, by simp, rfl⟩, h2, hm.mono fun k hk e => ?_⟩
  rcases e with e | e | e
  · exact .inl (by rw [e, hb.tb]; decide)
  · exact .inl (by rw [hb.t0 k e]; decide)
  · exact .inr e
end Go.Proofs.YtckbckdaffdjmaaDoor

/- The law's own functions on lists of words: copied, sameWords, intact. -/
namespace Go.Proofs.YtckbckdaffdjmaaDoor
open Go.RowKit
set_option maxRecDepth 100000
set_option linter.unusedVariables false
set_option linter.unusedSimpArgs false

/-- What lies behind the end. -/
def beU : UInt64 := 13835058055282163719
theorem beU_v : (beU.toNat : Int) = 13835058055282163719 := rfl
/-- Behind i words of the copy. -/
def fillU (W : List UInt64) (i : Nat) : List UInt64 := W.take i ++ List.replicate (W.length + 3 - i) beU
theorem fillU_zero (W : List UInt64) : fillU W 0 = List.replicate (W.length + 3) beU := by simp [fillU]
theorem fillU_all (W : List UInt64) : fillU W W.length = W ++ [beU, beU, beU] := by
  unfold fillU
  rw [List.take_length, show W.length + 3 - W.length = 3 by omega]; rfl
theorem fillU_length {W : List UInt64} {i : Nat} (h : i ≤ W.length) : (fillU W i).length = W.length + 3 := by
  unfold fillU
  rw [List.length_append, List.length_take, List.length_replicate]; omega
theorem fillU_next {W : List UInt64} {i : Nat} {x : UInt64} (h : W[i]? = some x) : (fillU W i).set i x = fillU W (i + 1) := by
  have hi := (List.getElem?_eq_some_iff.1 h).1
  apply List.ext_getElem?
  intro j
  unfold fillU
  by_cases e : i = j
  · subst e
    rw [List.getElem?_set_self (by rw [List.length_append, List.length_take, List.length_replicate]; omega), List.getElem?_append_left (by rw [List.length_take]; omega), List.getElem?_take, if_pos (by omega), h]
  · rw [List.getElem?_set_ne e]
    by_cases hj : j < i
    · rw [List.getElem?_append_left (by rw [List.length_take]; omega), List.getElem?_append_left (by rw [List.length_take]; omega), List.getElem?_take, List.getElem?_take, if_pos hj, if_pos (by omega)]
    · rw [List.getElem?_append_right (by rw [List.length_take]; omega), List.getElem?_append_right (by rw [List.length_take]; omega), List.length_take, List.length_take, List.getElem?_replicate, List.getElem?_replicate, Nat.min_eq_left (by omega), Nat.min_eq_left (by omega)]
      by_cases h2 : j < W.length + 3
      · rw [if_pos (by omega), if_pos (by omega)]
      · rw [if_neg (by omega), if_neg (by omega)]
/-- v' is the copy of v, from block B on. -/
def Cop (B : Nat) (w : World) (v v' : Value) (W : List UInt64) : Prop :=
  (∃ c, v = .slice none 0 c ∧ W = [] ∧ v' = .slice none 0 0) ∨
  (∃ a c g, v = .slice (some a) W.length c ∧ v' = .slice (some ⟨g, 0, none⟩) W.length (W.length + 3) ∧ B ≤ g ∧ Rw w g 58 ((W ++ [beU, beU, beU]).map uv))
theorem Cop.mod {F : Nat → Prop} {B : Nat} {w w' : World} {v v' : Value} {W : List UInt64} (h : Cop B w v v' W) (hm : Mod F w w') (hf : ∀ g, v'.ownBlock = some g → ¬ F g) : Cop B w' v v' W := by
  rcases h with h | ⟨a, c, g, h1, rfl, h3, h4⟩
  · exact .inl h
  · exact .inr ⟨a, c, g, h1, rfl, h3, h4.mod hm (hf g rfl)⟩
theorem Cop.below {B : Nat} {w w' : World} {v v' : Value} {W : List UInt64} (h : Cop B w v v' W) (hb : Below w.heap.size w w') : Cop B w' v v' W := h.mod (F := fun _ => False) (Mod.of_below hb) (fun _ _ => id)
theorem Cop.ou {B : Nat} {w : World} {v v' : Value} {W : List UInt64} (h : Cop B w v v' W) (hl : W.length + 3 ≤ 17592186044416) : OU B w v' W := by
  rcases h with ⟨c, h1, rfl, rfl⟩ | ⟨a, c, g, h1, rfl, h3, h4⟩
  · exact OU.nil_ B w
  · refine ⟨⟨by simp, .inr ⟨g, W.length + 3, ((W ++ [beU, beU, beU]).map uv).toArray, rfl, h3, h4, by omega, by simp only [maxLen]; omega, by simp, ?_⟩⟩, by omega⟩
    rw [Nat.mul_one, List.map_append]
    show ((W.map uv ++ _)).take W.length = _
    rw [List.take_append_of_le_length (by simp), List.take_of_length_le (by simp)]
set_option maxHeartbeats 4000000 in
theorem copied_calls {w : World} {v : Value} {W : List UInt64} (h : RU w v W) (hl : W.length + 3 ≤ 17592186044416) :
    Calls Tryd.prog 19 #[v] w fun e w' => ∃ v', e = .returned v' ∧ Cop w.heap.size w' v v' W ∧ Below w.heap.size w w' := by
  have HR := Lib.hid h
  have hm := uy_made (W.length + 3) (by omega)
  obtain ⟨p, c, hv⟩ := h.form
  have hnil : p = none → W = [] := by
    intro e
    obtain ⟨p', c', e', _, _, _, hr⟩ := h
    rw [hv] at e'
    simp only [Value.slice.injEq] at e'
    obtain ⟨rfl, -, -⟩ := e'
    cases W with
    | nil => rfl
    | cons b r => obtain ⟨g, o, e1, _⟩ := hr 0 b rfl; rw [e] at e1; cases e1
  clear h
  subst hv
  cases p with
  | none =>
    have := hnil rfl
    subst this
    go_enter Tryd.func19, Tryd.ntmps19
    clear hm hnil hl
    go_wp2_with fail
    go_ret
    exact ⟨_, rfl, .inl ⟨c, rfl, rfl, rfl⟩, Below.refl _ _⟩
  | some a =>
    clear hnil
    obtain ⟨L, hL⟩ : ∃ L, L = W.length := ⟨_, rfl⟩
    have HL := Lib.hid hL
    rw [← hL] at hm hl HR ⊢
    clear hL
    have hl2 : (L : Int) + 3 ≤ 17592186044416 := by omega
    have hl0 : (0 : Int) ≤ (L : Int) := Int.natCast_nonneg L
    have hl1 : (L : Int) + 3 = ((L + 3 : Nat) : Int) := by omega
    rw [← hl1] at hm
    replace hm := hm w
    rw [made_cells] at hm
    have hrow0 : Rw (w.alloc (.cells (((List.replicate (L + 3) (0 : UInt64)).map uv).toArray) 58)) w.heap.size 58 ((List.replicate 0 beU ++ (List.replicate (L + 3) (0 : UInt64)).drop 0).map uv) := by
      exact heap_new w (.cells (((List.replicate (L + 3) (0 : UInt64)).map uv).toArray) 58) w.heap.size rfl
    have HROW0 := Lib.hid hrow0
    have HB0 := Lib.hid (below_alloc1 w (.cells (((List.replicate (L + 3) (0 : UInt64)).map uv).toArray) 58))
    have HL3 := Lib.hid hl
    obtain ⟨w0, hw0⟩ : ∃ w0, w0 = w.alloc (.cells (((List.replicate (L + 3) (0 : UInt64)).map uv).toArray) 58) := ⟨_, rfl⟩
    rw [← hw0] at hm HROW0 HB0
    clear hrow0 hw0 hl1
    go_enter Tryd.func19, Tryd.ntmps19
    go_wp2_with fail
    refine wp_loop_count (fun i a' w' => Is (fun U => ⟨#[.slice (some a) L c, U 1, U 2, .slice (some ⟨w.heap.size, 0, none⟩) (L + 3) (L + 3), .int .i64 i, U 5, U 6, U 7, U 8, U 9, U 10, U 11, U 12, U 13, U 14, U 15, U 16, U 17, U 18, U 19, U 20, U 21, U 22, U 23, U 24, U 25, U 26, U 27, U 28, U 29, U 30, U 31, U 32, U 33, U 34, U 35, U 36, U 37], []⟩) a' ∧ Rw w' w.heap.size 58 ((List.replicate i beU ++ (List.replicate (L + 3) (0 : UInt64)).drop i).map uv) ∧ Below w.heap.size w w') (L + 3) ⟨isU (fun U => ⟨#[.slice (some a) L c, U 1, U 2, .slice (some ⟨w.heap.size, 0, none⟩) (L + 3) (L + 3), .int .i64 0, U 5, U 6, U 7, U 8, U 9, U 10, U 11, U 12, U 13, U 14, U 15, U 16, U 17, U 18, U 19, U 20, U 21, U 22, U 23, U 24, U 25, U 26, U 27, U 28, U 29, U 30, U 31, U 32, U 33, U 34, U 35, U 36, U 37], []⟩) rfl, HROW0.out, HB0.out⟩ ?_ ?_
    · rintro i a' w' hi ⟨hU, hrow, hb⟩
      obtain ⟨U, rfl⟩ := hU.out
      have hset := hrow.set i (uv beU)
      rw [← List.map_set, rep_set _ _ (by simpa using hi)] at hset
      have hc0 : w'.cell? ⟨w.heap.size, i, none⟩ = some (uv 0) := hrow.cell (by
        rw [List.getElem?_map, List.getElem?_append_right (by simp), List.length_replicate, Nat.sub_self, List.getElem?_drop, List.getElem?_replicate, if_pos (by omega)]; rfl)
      have hf0 := hrow.frozen i
      have hbe : Below w.heap.size w (w'.setCell ⟨w.heap.size, i, none⟩ (uv beU)) := hb.setCell (p := ⟨w.heap.size, i, none⟩) (Nat.le_refl _) _
      have HS := Lib.hid hset
      have HB := Lib.hid hbe
      have hi' : (i : Int) < (L : Int) + 3 := by exact_mod_cast hi
      have hi0 : (0 : Int) ≤ (i : Int) := Int.natCast_nonneg i
      clear hm hU hrow hset hb hbe
      go_wp2_with fail
      exact ⟨isU (fun U => ⟨#[.slice (some a) L c, U 1, U 2, .slice (some ⟨w.heap.size, 0, none⟩) (L + 3) (L + 3), .int .i64 (i + 1 : Nat), U 5, U 6, U 7, U 8, U 9, U 10, U 11, U 12, U 13, U 14, U 15, U 16, U 17, U 18, U 19, U 20, U 21, U 22, U 23, U 24, U 25, U 26, U 27, U 28, U 29, U 30, U 31, U 32, U 33, U 34, U 35, U 36, U 37], []⟩) rfl, HS.out, HB.out⟩
    · rintro a' w' ⟨hU, hrow, hb⟩
      obtain ⟨U, rfl⟩ := hU.out
      have hd : List.replicate (L + 3) beU ++ (List.replicate (L + 3) (0 : UInt64)).drop (L + 3) = fillU W 0 := by rw [fillU_zero, ← HL.out, List.drop_of_length_le (by simp), List.append_nil]
      rw [hd] at hrow
      have HROW := Lib.hid hrow
      have HB := Lib.hid hb
      clear hm hU hrow hb hd
      go_wp2_with fail
      refine wp_loop_count (fun i a' w' => Is (fun U => ⟨#[.slice (some a) L c, U 1, U 2, .slice (some ⟨w.heap.size, 0, none⟩) (L + 3) (L + 3), U 4, .int .i64 i, U 6, U 7, U 8, U 9, U 10, U 11, U 12, U 13, U 14, U 15, U 16, U 17, U 18, U 19, U 20, U 21, U 22, U 23, U 24, U 25, U 26, U 27, U 28, U 29, U 30, U 31, U 32, U 33, U 34, U 35, U 36, U 37], []⟩) a' ∧ Rw w' w.heap.size 58 ((fillU W i).map uv) ∧ Below w.heap.size w w') L ⟨isU (fun U => ⟨#[.slice (some a) L c, U 1, U 2, .slice (some ⟨w.heap.size, 0, none⟩) (L + 3) (L + 3), U 4, .int .i64 0, U 6, U 7, U 8, U 9, U 10, U 11, U 12, U 13, U 14, U 15, U 16, U 17, U 18, U 19, U 20, U 21, U 22, U 23, U 24, U 25, U 26, U 27, U 28, U 29, U 30, U 31, U 32, U 33, U 34, U 35, U 36, U 37], []⟩) rfl, HROW.out, HB.out⟩ ?_ ?_
      · rintro i a' w' hi ⟨hU, hrow, hb⟩
        obtain ⟨U, rfl⟩ := hU.out
        obtain ⟨x, hx⟩ : ∃ x, W[i]? = some x := ⟨_, List.getElem?_eq_getElem (by rw [← HL.out]; exact hi)⟩
        obtain ⟨p', c', e', _, _, _, hr⟩ := HR.out
        simp only [Value.slice.injEq] at e'
        obtain ⟨rfl, -, -⟩ := e'
        obtain ⟨g, o, e, hg, hcell⟩ := hr _ _ hx
        injection e with e
        subst e
        have hcell' := ((bcell hb).1 g _ hg).trans hcell
        have hset := hrow.set i (uv x)
        rw [← List.map_set, fillU_next hx] at hset
        obtain ⟨z, hz⟩ : ∃ z, (fillU W i)[i]? = some z := ⟨_, List.getElem?_eq_getElem (by rw [fillU_length (by have := HL.out; omega)]; have := HL.out; omega)⟩
        have hc0 : w'.cell? ⟨w.heap.size, i, none⟩ = some (uv z) := hrow.cell (by rw [List.getElem?_map, hz]; rfl)
        have hf0 := hrow.frozen i
        have hbe : Below w.heap.size w (w'.setCell ⟨w.heap.size, i, none⟩ (uv x)) := hb.setCell (p := ⟨w.heap.size, i, none⟩) (Nat.le_refl _) _
        have HS := Lib.hid hset
        have HB := Lib.hid hbe
        have hi' : (i : Int) < (L : Int) := by exact_mod_cast hi
        have hi3 : (i : Int) < (L : Int) + 3 := by omega
        have hi0 : (0 : Int) ≤ (i : Int) := Int.natCast_nonneg i
        clear hU hrow hset hb hbe hr hx hz hcell
        go_wp2_with fail
        exact ⟨isU (fun U => ⟨#[.slice (some ⟨g, o, none⟩) L c, U 1, U 2, .slice (some ⟨w.heap.size, 0, none⟩) (L + 3) (L + 3), U 4, .int .i64 (i + 1 : Nat), U 6, U 7, U 8, U 9, U 10, U 11, U 12, U 13, U 14, U 15, U 16, U 17, U 18, U 19, U 20, U 21, U 22, U 23, U 24, U 25, U 26, U 27, U 28, U 29, U 30, U 31, U 32, U 33, U 34, U 35, U 36, U 37], []⟩) rfl, HS.out, HB.out⟩
      · rintro a' w' ⟨hU, hrow, hb⟩
        obtain ⟨U, rfl⟩ := hU.out
        have HROW := Lib.hid hrow
        have HB := Lib.hid hb
        clear hU hrow hb
        go_wp2_with fail
        go_ret
        refine ⟨.slice (some ⟨w.heap.size, 0, none⟩) L (L + 3), rfl, .inr ⟨a, c, w.heap.size, ?_, ?_, Nat.le_refl _, ?_⟩, HB.out⟩
        · rw [HL.out]
        · rw [HL.out]
        · have := HROW.out
          rwa [HL.out, fillU_all] at this
set_option maxHeartbeats 4000000 in
theorem sameWords_calls {w : World} {va vb : Value} {l : List UInt64} (h : RU w va l) (h' : RU w vb l) : Pur Tryd.prog 22 #[va, vb] w (.bool true) := by
  unfold Pur
  obtain ⟨p, c, rfl, h1, h2, h3, hr⟩ := h
  obtain ⟨p', c', rfl, h1', h2', h3', hr'⟩ := h'
  go_enter Tryd.func22, Tryd.ntmps22
  go_wp2_with fail
  refine wp_loop_count (fun i a w' => (∃ U : Nat → Value, a = ⟨#[.slice p l.length c, .slice p' l.length c', U 2, U 3, .bool false, .int .i64 i, U 6, U 7, U 8, U 9, U 10, U 11, U 12, U 13, U 14, U 15, U 16, U 17, U 18, U 19, U 20, U 21, U 22, U 23, U 24, U 25], []⟩) ∧ Below w.heap.size w w') l.length ⟨exU (fun U => ⟨#[.slice p l.length c, .slice p' l.length c', U 2, U 3, .bool false, .int .i64 0, U 6, U 7, U 8, U 9, U 10, U 11, U 12, U 13, U 14, U 15, U 16, U 17, U 18, U 19, U 20, U 21, U 22, U 23, U 24, U 25], []⟩) rfl, Below.refl _ _⟩ ?_ ?_
  · rintro i a w' hi ⟨⟨U, rfl⟩, hb⟩
    obtain ⟨b, hlb⟩ : ∃ b, l[i]? = some b := ⟨l[i], List.getElem?_eq_getElem hi⟩
    obtain ⟨g, o, rfl, hg, hcell⟩ := hr i b hlb
    obtain ⟨g', o', rfl, hg', hcell'⟩ := hr' i b hlb
    have hgw : g < w'.heap.size := Nat.lt_of_lt_of_le hg hb.size
    have hgw' : g' < w'.heap.size := Nat.lt_of_lt_of_le hg' hb.size
    replace hcell := ((bcell hb).1 g (o + i) hg).trans hcell
    replace hcell' := ((bcell hb).1 g' (o' + i) hg').trans hcell'
    have hi' : (i : Int) < (l.length : Int) := by exact_mod_cast hi
    have hi0 : (0 : Int) ≤ (i : Int) := Int.natCast_nonneg i
    clear hr hr' hlb
    go_wp2_with fail
    refine wp_region_here (by kernel_rfl) (by kernel_rfl) ?_
    (repeat (first | (apply wpR_pass rfl; (try simp only [Act.put, List.setIfInBounds_toArray, List.set_cons_succ, List.set_cons_zero])) | (apply wpR_val rfl; (focus (intro w1 hR; obtain ⟨hc, hf⟩ := bcellB hR; (try go_simp); (try exact Eq.refl _); done)); (try simp only [Act.put, List.setIfInBounds_toArray, List.set_cons_succ, List.set_cons_zero])) | (apply wpR_call rfl; (focus (intro w1 hR; obtain ⟨hc, hf⟩ := bcellB hR; (try go_simp); (try exact And.intro rfl rfl); done)); (focus (intro w1 hR; first | exact ().at_ (by first | omega | (simp; done) | (simp; omega)) hR)); (try simp only [Act.put, List.setIfInBounds_toArray, List.set_cons_succ, List.set_cons_zero])) | (apply wpR_val_want rfl; (focus (intro w1 hR; obtain ⟨hc, hf⟩ := bcellB hR; (try go_simp); (try exact Eq.refl _); done)); (try simp only [Act.put, List.setIfInBounds_toArray, List.set_cons_succ, List.set_cons_zero])) | (apply wpR_call_want rfl; (focus (intro w1 hR; obtain ⟨hc, hf⟩ := bcellB hR; (try go_simp); (try exact And.intro rfl rfl); done)); (focus (intro w1 hR; first | exact ().at_ (by first | omega | (simp; done) | (simp; omega)) hR)); (try simp only [Act.put, List.setIfInBounds_toArray, List.set_cons_succ, List.set_cons_zero]))))
    refine wpR_nil (fun w2 hb2 => ?_)
    go_wp2_with fail
    exact ⟨exU (fun U => ⟨#[.slice (some ⟨g, o, none⟩) l.length c, .slice (some ⟨g', o', none⟩) l.length c', U 2, U 3, .bool false, .int .i64 (i + 1 : Nat), U 6, U 7, U 8, U 9, U 10, U 11, U 12, U 13, U 14, U 15, U 16, U 17, U 18, U 19, U 20, U 21, U 22, U 23, U 24, U 25], []⟩) rfl, hb.trans (hb2.mono hb.size)⟩
  · rintro a w' ⟨⟨U, rfl⟩, hb⟩
    go_wp2_with fail
    go_ret
    exact ⟨rfl, hb⟩
theorem Cop.ru {B : Nat} {w : World} {v v' : Value} {W : List UInt64} (h : Cop B w v v' W) (hl : W.length + 3 ≤ 17592186044416) : RU w v' W := (h.ou hl).ru
set_option maxHeartbeats 4000000 in
theorem intact_calls {w : World} {B : Nat} {va vi : Value} {W : List UInt64} (hc : Cop B w va vi W) (h : RU w va W) (hl : W.length + 3 ≤ 17592186044416) : Pur Tryd.prog 25 #[vi, va] w (.bool true) := by
  unfold Pur
  have hs := sameWords_calls (hc.ru hl) h
  have HL := Lib.hid hl
  rcases hc with ⟨c, rfl, rfl, rfl⟩ | ⟨a, c, g, rfl, rfl, h3, h4⟩
  · clear hl
    go_enter Tryd.func25, Tryd.ntmps25
    go_wp2_with (first | (go_at_call 22; refine hs.out.mono ?_; rintro e w1 ⟨rfl, hb1⟩) | fail)
    go_ret
    exact ⟨rfl, hb1⟩
  · have H4 := Lib.hid h4
    have lg := heap_lt h4
    obtain ⟨L, hL⟩ : ∃ L, L = W.length := ⟨_, rfl⟩
    have HLL := Lib.hid hL
    rw [← hL] at hl hs ⊢
    have hl2 : (L : Int) + 3 ≤ 17592186044416 := by omega
    have hl0 : (0 : Int) ≤ (L : Int) := Int.natCast_nonneg L
    clear hL h4 h
    go_enter Tryd.func25, Tryd.ntmps25
    go_wp2_with (first | (go_at_call 22; refine hs.out.mono ?_; rintro e w1 ⟨rfl, hb1⟩) | fail)
    have FRM : True := trivial
    refine wp_loop_count (fun j a' w' => (∃ U : Nat → Value, a' = ⟨#[.slice (some ⟨g, 0, none⟩) L (L + 3), .slice (some a) L c, U 2, U 3, .bool false, .bool true, .slice (some ⟨g, 0, none⟩) (L + 3) (L + 3), .int .i64 ((L + j : Nat) : Int), U 8, U 9, U 10, U 11, U 12, U 13, U 14, U 15, U 16, U 17, U 18, U 19, U 20, U 21, U 22, U 23, U 24, U 25, U 26, U 27, U 28, U 29, U 30, U 31, U 32, U 33, U 34, U 35], []⟩) ∧ Below w.heap.size w w') 3 ⟨exU (fun U => ⟨#[.slice (some ⟨g, 0, none⟩) L (L + 3), .slice (some a) L c, U 2, U 3, .bool false, .bool true, .slice (some ⟨g, 0, none⟩) (L + 3) (L + 3), .int .i64 ((L + 0 : Nat) : Int), U 8, U 9, U 10, U 11, U 12, U 13, U 14, U 15, U 16, U 17, U 18, U 19, U 20, U 21, U 22, U 23, U 24, U 25, U 26, U 27, U 28, U 29, U 30, U 31, U 32, U 33, U 34, U 35], []⟩) rfl, hb1⟩ ?_ ?_
    · rintro j a' w' hj ⟨⟨U, rfl⟩, hb⟩
      have hcell : w'.cell? ⟨g, L + j, none⟩ = some (uv beU) := ((bcell hb).1 g (L + j) lg).trans (H4.out.cell (by
        rw [List.getElem?_map, List.getElem?_append_right (by have := HLL.out; omega), ← HLL.out, Nat.add_sub_cancel_left]
        match j, hj with
        | 0, _ => rfl
        | 1, _ => rfl
        | 2, _ => rfl))
      obtain ⟨k, hk⟩ : ∃ k, k = L + j := ⟨_, rfl⟩
      rw [← hk] at hcell ⊢
      have hk1 : (k : Int) < (L : Int) + 3 := by omega
      have hk0 : (0 : Int) ≤ (k : Int) := Int.natCast_nonneg k
      have HK : Hid (((L + (j + 1) : Nat) : Int) = (k : Int) + 1) := Lib.hid (by omega)
      have hcell2 : w'.cell? ⟨g, k, none⟩ = some (.int .u64 13835058055282163719) := hcell
      clear hk hj hb1 hcell
      go_wp2_with fail
      refine ⟨?_, hb⟩
      rw [HK.out]
      exact exU (fun U => ⟨#[.slice (some ⟨g, 0, none⟩) L (L + 3), .slice (some a) L c, U 2, U 3, .bool false, .bool true, .slice (some ⟨g, 0, none⟩) (L + 3) (L + 3), .int .i64 ((k : Int) + 1), U 8, U 9, U 10, U 11, U 12, U 13, U 14, U 15, U 16, U 17, U 18, U 19, U 20, U 21, U 22, U 23, U 24, U 25, U 26, U 27, U 28, U 29, U 30, U 31, U 32, U 33, U 34, U 35], []⟩) rfl
    · rintro a' w' ⟨⟨U, rfl⟩, hb⟩
      clear hb1
      obtain ⟨k, hk⟩ : ∃ k, k = L + 3 := ⟨_, rfl⟩
      rw [← hk]
      clear hs hl hl2
      go_wp2_with fail
      go_ret
      exact ⟨rfl, hb⟩
end Go.Proofs.YtckbckdaffdjmaaDoor

/- The Book asked: sameWords at any lists; kept. -/
namespace Go.Proofs.YtckbckdaffdjmaaDoor
open Go.RowKit
set_option maxRecDepth 100000
set_option linter.unusedVariables false
set_option linter.unusedSimpArgs false

set_option maxHeartbeats 4000000 in
theorem sameWords_any {w : World} {va vb : Value} {l l' : List UInt64} (h : RU w va l) (h' : RU w vb l') : Pur Tryd.prog 22 #[va, vb] w (.bool (decide (l = l'))) := by
  by_cases hll : l.length = l'.length
  · unfold Pur
    obtain ⟨p, c, rfl, h1, h2, h3, hr⟩ := h
    obtain ⟨p', c', rfl, h1', h2', h3', hr'⟩ := h'
    rw [← hll] at h1' h3' ⊢
    go_enter Tryd.func22, Tryd.ntmps22
    go_wp2_with fail
    refine wp_loop_count (fun i a w' => (∃ U : Nat → Value, a = ⟨#[.slice p l.length c, .slice p' l.length c', U 2, U 3, .bool false, .int .i64 i, U 6, U 7, U 8, U 9, U 10, U 11, U 12, U 13, U 14, U 15, U 16, U 17, U 18, U 19, U 20, U 21, U 22, U 23, U 24, U 25], []⟩) ∧ (∀ j, j < i → l[j]? = l'[j]?) ∧ Below w.heap.size w w') l.length ⟨exU (fun U => ⟨#[.slice p l.length c, .slice p' l.length c', U 2, U 3, .bool false, .int .i64 0, U 6, U 7, U 8, U 9, U 10, U 11, U 12, U 13, U 14, U 15, U 16, U 17, U 18, U 19, U 20, U 21, U 22, U 23, U 24, U 25], []⟩) rfl, fun _ h => absurd h (Nat.not_lt_zero _), Below.refl _ _⟩ ?_ ?_
    · rintro i a w' hi ⟨⟨U, rfl⟩, hsame, hb⟩
      obtain ⟨b, hlb⟩ : ∃ b, l[i]? = some b := ⟨l[i], List.getElem?_eq_getElem hi⟩
      obtain ⟨b', hlb'⟩ : ∃ b, l'[i]? = some b := ⟨l'[i]'(by omega), List.getElem?_eq_getElem (by omega)⟩
      obtain ⟨g, o, rfl, hg, hcell⟩ := hr i b hlb
      obtain ⟨g', o', rfl, hg', hcell'⟩ := hr' i b' hlb'
      have hgw : g < w'.heap.size := Nat.lt_of_lt_of_le hg hb.size
      have hgw' : g' < w'.heap.size := Nat.lt_of_lt_of_le hg' hb.size
      replace hcell := ((bcell hb).1 g (o + i) hg).trans hcell
      replace hcell' := ((bcell hb).1 g' (o' + i) hg').trans hcell'
      have hi' : (i : Int) < (l.length : Int) := by exact_mod_cast hi
      have hi0 : (0 : Int) ≤ (i : Int) := Int.natCast_nonneg i
      have HS := Lib.hid hsame
      have HLB := Lib.hid hlb
      have HLB' := Lib.hid hlb'
      clear hr hr' hlb hlb' hsame hll
      go_wp2_with fail
      refine wp_region_here (by kernel_rfl) (by kernel_rfl) ?_
      by_cases hbb : b = b'
      · subst hbb
        (repeat (first | (apply wpR_pass rfl; (try simp only [Act.put, List.setIfInBounds_toArray, List.set_cons_succ, List.set_cons_zero])) | (apply wpR_val rfl; (focus (intro w1 hR; obtain ⟨hc, hf⟩ := bcellB hR; (try go_simp); (try exact Eq.refl _); done)); (try simp only [Act.put, List.setIfInBounds_toArray, List.set_cons_succ, List.set_cons_zero])) | (apply wpR_call rfl; (focus (intro w1 hR; obtain ⟨hc, hf⟩ := bcellB hR; (try go_simp); (try exact And.intro rfl rfl); done)); (focus (intro w1 hR; first | exact ().at_ (by first | omega | (simp; done) | (simp; omega)) hR)); (try simp only [Act.put, List.setIfInBounds_toArray, List.set_cons_succ, List.set_cons_zero])) | (apply wpR_val_want rfl; (focus (intro w1 hR; obtain ⟨hc, hf⟩ := bcellB hR; (try go_simp); (try exact Eq.refl _); done)); (try simp only [Act.put, List.setIfInBounds_toArray, List.set_cons_succ, List.set_cons_zero])) | (apply wpR_call_want rfl; (focus (intro w1 hR; obtain ⟨hc, hf⟩ := bcellB hR; (try go_simp); (try exact And.intro rfl rfl); done)); (focus (intro w1 hR; first | exact ().at_ (by first | omega | (simp; done) | (simp; omega)) hR)); (try simp only [Act.put, List.setIfInBounds_toArray, List.set_cons_succ, List.set_cons_zero]))))
        refine wpR_nil (fun w2 hb2 => ?_)
        go_wp2_with fail
        refine ⟨exU (fun U => ⟨#[.slice (some ⟨g, o, none⟩) l.length c, .slice (some ⟨g', o', none⟩) l.length c', U 2, U 3, .bool false, .int .i64 (i + 1 : Nat), U 6, U 7, U 8, U 9, U 10, U 11, U 12, U 13, U 14, U 15, U 16, U 17, U 18, U 19, U 20, U 21, U 22, U 23, U 24, U 25], []⟩) rfl, fun j hj => ?_, hb.trans (hb2.mono hb.size)⟩
        by_cases e : j = i
        · subst e; rw [HLB.out, HLB'.out]
        · exact HS.out j (by omega)
      · have hn : ¬ ((b.toNat : Int) = (b'.toNat : Int)) := fun e => hbb (UInt64.toNat_inj.1 (by omega))
        have hn1 : ¬ (b.toNat = b'.toNat) := fun e => hbb (UInt64.toNat_inj.1 (by omega))
        have HNE := Lib.hid hbb
        clear hbb
        (repeat (first | (apply wpR_pass rfl; (try simp only [Act.put, List.setIfInBounds_toArray, List.set_cons_succ, List.set_cons_zero])) | (apply wpR_val rfl; (focus (intro w1 hR; obtain ⟨hc, hf⟩ := bcellB hR; (try go_simp); (try exact Eq.refl _); done)); (try simp only [Act.put, List.setIfInBounds_toArray, List.set_cons_succ, List.set_cons_zero])) | (apply wpR_call rfl; (focus (intro w1 hR; obtain ⟨hc, hf⟩ := bcellB hR; (try go_simp); (try exact And.intro rfl rfl); done)); (focus (intro w1 hR; first | exact ().at_ (by first | omega | (simp; done) | (simp; omega)) hR)); (try simp only [Act.put, List.setIfInBounds_toArray, List.set_cons_succ, List.set_cons_zero])) | (apply wpR_val_want rfl; (focus (intro w1 hR; obtain ⟨hc, hf⟩ := bcellB hR; (try go_simp); (try exact Eq.refl _); done)); (try simp only [Act.put, List.setIfInBounds_toArray, List.set_cons_succ, List.set_cons_zero])) | (apply wpR_call_want rfl; (focus (intro w1 hR; obtain ⟨hc, hf⟩ := bcellB hR; (try go_simp); (try exact And.intro rfl rfl); done)); (focus (intro w1 hR; first | exact ().at_ (by first | omega | (simp; done) | (simp; omega)) hR)); (try simp only [Act.put, List.setIfInBounds_toArray, List.set_cons_succ, List.set_cons_zero]))))
        refine wpR_nil (fun w2 hb2 => ?_)
        go_wp2_with fail
        go_ret
        have hd : decide (l = l') = false := decide_eq_false fun e => by
          have h1 := HLB.out
          have h2 := HLB'.out
          rw [e, h2] at h1
          exact HNE.out (Option.some.inj h1).symm
        rw [hd]
        exact ⟨rfl, hb.trans (hb2.mono hb.size)⟩
    · rintro a w' ⟨⟨U, rfl⟩, hsame, hb⟩
      have HS := Lib.hid hsame
      have HL := Lib.hid hll
      clear hsame hll
      go_wp2_with fail
      go_ret
      have hd : decide (l = l') = true := decide_eq_true (by
        apply List.ext_getElem?
        intro j
        by_cases e : j < l.length
        · exact HS.out j e
        · have := HL.out
          rw [List.getElem?_eq_none (by omega), List.getElem?_eq_none (by omega)])
      rw [hd]
      exact ⟨rfl, hb⟩
  · unfold Pur
    obtain ⟨p, c, rfl, h1, h2, h3, hr⟩ := h
    obtain ⟨p', c', rfl, h1', h2', h3', hr'⟩ := h'
    have hn : ¬ ((l.length : Int) = (l'.length : Int)) := fun e => hll (by omega)
    have HL := Lib.hid hll
    clear hll hr hr'
    go_enter Tryd.func22, Tryd.ntmps22
    go_wp2_with fail
    go_ret
    have hd : decide (l = l') = false := decide_eq_false fun e => HL.out (by rw [e])
    rw [hd]
    exact ⟨rfl, Below.refl _ _⟩
end Go.Proofs.YtckbckdaffdjmaaDoor

/- The Book, seen from outside; what makes bitmaps, whatever comes of it; the pair. -/
namespace Go.Proofs.YtckbckdaffdjmaaDoor
open Go.RowKit
set_option maxRecDepth 100000
set_option linter.unusedVariables false
set_option linter.unusedSimpArgs false

/-- A Book lies at b; own: the blocks that it knows of; at most N lists. -/
def Bok (w : World) (b : Nat) (own : Nat → Prop) (late : Bool) (N : Nat) : Prop :=
  ∃ ow N0 N2, Bkk w b ow late 0 N0 N2 ∧ (∀ k, own k ↔ ow k ≠ 0) ∧ N0 + 2 * N2 ≤ N ∧ (late = false → N2 = 0) ∧ (late = true → N0 = 0)
theorem Bok.lt {w : World} {b N : Nat} {own : Nat → Prop} {late : Bool} (h : Bok w b own late N) : ∀ k, own k → k < w.heap.size := by
  obtain ⟨ow, N0, N2, ⟨v0, v2, v3, K0, K2, K3, Ws, hb, _, _⟩, ho, _⟩ := h
  intro k hk
  rcases Nat.lt_or_ge k w.heap.size with h | h
  · exact h
  · exact absurd (hb.hi k h) ((ho k).1 hk)
theorem Bok.at_ {w : World} {b N : Nat} {own : Nat → Prop} {late : Bool} (h : Bok w b own late N) : own b := by
  obtain ⟨ow, N0, N2, ⟨v0, v2, v3, K0, K2, K3, Ws, hb, _, _⟩, ho, _⟩ := h
  exact (ho b).2 (by rw [hb.tb]; decide)
theorem Bok.mod {w w' : World} {b N : Nat} {own F : Nat → Prop} {late : Bool} (h : Bok w b own late N) (hm : Mod F w w') (hF : ∀ k, k < w.heap.size → F k → ¬ own k) : Bok w' b own late N := by
  obtain ⟨ow, N0, N2, h1, ho, hn, hl⟩ := h
  refine ⟨ow, N0, N2, h1.mod hm fun k hk hf => ?_, ho, hn, hl⟩
  have := hF k hk hf
  rw [ho] at this
  exact Decidable.not_not.1 this
theorem Bok.below {w w' : World} {b N : Nat} {own : Nat → Prop} {late : Bool} (h : Bok w b own late N) (hb : Below w.heap.size w w') : Bok w' b own late N := h.mod (F := fun _ => False) (Mod.of_below hb) (fun _ _ e => e.elim)
theorem Bok.more {w : World} {b N M : Nat} {own : Nat → Prop} {late : Bool} (h : Bok w b own late N) (hM : N ≤ M) : Bok w b own late M := by
  obtain ⟨ow, N0, N2, h1, ho, hn, hl⟩ := h
  exact ⟨ow, N0, N2, h1, ho, by omega, hl⟩
/-- What keep does. -/
structure KeepC (late : Bool) : Prop where
  run : ∀ {w : World} {b N : Nat} {own : Nat → Prop} {x : Value} {l : List UInt64}, Bok w b own late N → OU 0 w x l → l.length + 80 ≤ 17592186044416 → (∀ g, x.ownBlock = some g → ¬ own g) → N + 2 ≤ 5864062014805 →
  Calls Tryd.prog 23 #[.pointer (some ⟨b, 0, none⟩), x] w fun e w' => e = .returned (.tuple #[]) ∧ ∃ own', Bok w' b own' late (N + 2) ∧ (∀ k, k < w.heap.size → (own' k ↔ own k ∨ x.ownBlock = some k)) ∧ Mod (fun k => own k ∨ x.ownBlock = some k) w w'
theorem Bkk.zero {w : World} {b cur N0 N2 : Nat} {own : Nat → Nat} (h : Bkk w b own false cur N0 N2) (h2 : N2 = 0) : Bkk w b own false 0 N0 N2 := by
  obtain ⟨v0, v2, v3, K0, K2, K3, Ws, hb, h0, hN⟩ := h
  have hk : K2 = [] := List.eq_nil_of_length_eq_zero (hN.trans h2)
  have hw : Ws = [] := List.eq_nil_of_length_eq_zero (by rw [← hb.l2, hk]; rfl)
  subst hk hw
  exact ⟨v0, v2, v3, K0, [], K3, [], ⟨hb.blk, hb.r0, hb.r2, hb.r3, hb.tb, hb.t0, hb.t2, hb.t3, hb.even, hb.marked, hb.l2, hb.l3, fun i v l _ e => (by simp at e), fun i v l _ _ e => (by simp at e), hb.hi⟩, h0, hN⟩
theorem keepC_now : KeepC false := by
  constructor
  intro w b N own x l h hx hl hf hN
  obtain ⟨ow, N0, N2, h1, ho, hn, h2, -⟩ := h
  refine (keep_now h1 (by omega) hx hl fun g e => .inl ?_).mono ?_
  · have := hf g e
    rw [ho] at this
    exact Decidable.not_not.1 this
  · rintro e w' ⟨rfl, ow', hk, hlow, hm⟩
    refine ⟨rfl, fun k => ow' k ≠ 0, ⟨ow', N0 + 2, N2, hk.zero (h2 rfl), fun k => Iff.rfl, by omega, h2, fun e => by cases e⟩, fun k hkk => ?_, hm.mono fun k _ e => ?_⟩
    · show ow' k ≠ 0 ↔ _
      rw [hlow k hkk, ho]
      by_cases e : x.ownBlock = some k
      · simp [e]
      · simp [e]
    · rw [ho]; exact e
theorem Bok.new {w : World} {b : Nat} {late : Bool} (h : Rw w b 31 [.slice none 0 0, .bool late, .slice none 0 0, .slice none 0 0]) : Bok w b (fun k => k = b) late 0 :=
  ⟨_, 0, 0, Bkk.new h, fun k => by by_cases e : k = b <;> simp [e], Nat.le_refl _, fun _ => rfl, fun _ => rfl⟩

namespace Bm
/-- The errors of New and From. -/
def errN (n : Int) : Nat := if n < 1 ∨ 65536 < n then 1 else 0
def errF (n : Int) (V : List UInt64) : Nat := if n < 1 ∨ 65536 < n then 1 else validE n.toNat V
end Bm
/-- A bitmap or none. -/
def GotB (w w' : World) (q : Option Addr) (er : Nat) (n : Int) (W : List UInt64) : Prop :=
  (er ≠ 0 ∧ q = none) ∨ (er = 0 ∧ ∃ p bw ba, q = some ⟨p, 0, none⟩ ∧ BM w' p bw ba n.toNat W ∧ w.heap.size ≤ p ∧ w.heap.size ≤ bw ∧ w.heap.size ≤ ba)
def GotR (w w' : World) (q : Option Addr) (er : Nat) (bs : List Bool) : Prop :=
  (er ≠ 0 ∧ q = none) ∨ (er = 0 ∧ ∃ r bb, q = some ⟨r, 0, none⟩ ∧ RM w' r bb bs ∧ w.heap.size ≤ r ∧ w.heap.size ≤ bb)
section
variable {w : World} {n : Int} {v : Value} {V : List UInt64}
theorem new_any (hn : (Lit.int .i64 n).wf = true) : Calls Tryd.prog 56 #[.int .i64 n] w fun e w' => ∃ q, e = .returned (.tuple #[.pointer q, .int .i64 (Bm.errN n : Nat)]) ∧ GotB w w' q (Bm.errN n) n (List.replicate (Bm.room n.toNat) 0) ∧ Below w.heap.size w w' := by
  unfold Bm.errN
  by_cases h : n < 1 ∨ 65536 < n
  · rw [if_pos h]
    exact (new_err hn h).out.mono fun e w' ⟨he, hb⟩ => ⟨none, he, .inl ⟨by decide, rfl⟩, hb⟩
  · rw [if_neg h]
    obtain ⟨m, rfl⟩ : ∃ m : Nat, n = m := ⟨n.toNat, by omega⟩
    exact (new_calls (w := w) (n := m) (by omega) (by omega)).mono fun e w' ⟨p, bw, ba, he, hm, h1, h2, h3, hb⟩ => ⟨_, he, .inr ⟨rfl, p, bw, ba, rfl, hm, h1, h2, h3⟩, hb⟩
theorem rnew_any (hn : (Lit.int .i64 n).wf = true) : Calls Tryd.prog 57 #[.int .i64 n] w fun e w' => ∃ q, e = .returned (.tuple #[.pointer q, .int .i64 (Bm.errN n : Nat)]) ∧ GotR w w' q (Bm.errN n) (List.replicate n.toNat false) ∧ Below w.heap.size w w' := by
  unfold Bm.errN
  by_cases h : n < 1 ∨ 65536 < n
  · rw [if_pos h]
    exact (rnew_err hn h).out.mono fun e w' ⟨he, hb⟩ => ⟨none, he, .inl ⟨by decide, rfl⟩, hb⟩
  · rw [if_neg h]
    obtain ⟨m, rfl⟩ : ∃ m : Nat, n = m := ⟨n.toNat, by omega⟩
    exact (rnew_calls (w := w) (n := m) (by omega) (by omega)).mono fun e w' ⟨r, bb, he, hm, h1, h2, hb⟩ => ⟨_, he, .inr ⟨rfl, r, bb, rfl, hm, h1, h2⟩, hb⟩
theorem from_any (hn : (Lit.int .i64 n).wf = true) (hv : RU w v V) : Calls Tryd.prog 54 #[.int .i64 n, v] w fun e w' => ∃ q, e = .returned (.tuple #[.pointer q, .int .i64 (Bm.errF n V : Nat)]) ∧ GotB w w' q (Bm.errF n V) n V ∧ Below w.heap.size w w' := by
  unfold Bm.errF
  by_cases h : n < 1 ∨ 65536 < n
  · rw [if_pos h]
    exact (from_err1 hn v h).out.mono fun e w' ⟨he, hb⟩ => ⟨none, he, .inl ⟨by decide, rfl⟩, hb⟩
  · rw [if_neg h]
    obtain ⟨m, rfl⟩ : ∃ m : Nat, n = m := ⟨n.toNat, by omega⟩
    rw [Int.toNat_natCast]
    by_cases he : Bm.validE m V = 0
    · rw [he]
      exact (from_calls hv (Bm.ok_of_valid (by omega) (by omega) he)).mono fun e w' ⟨p, bw, ba, he, hm, h1, h2, h3, hb⟩ => ⟨_, he, .inr ⟨rfl, p, bw, ba, rfl, hm, h1, h2, h3⟩, hb⟩
    · exact (from_err2 (by omega) (by omega) hv he).out.mono fun e w' ⟨h1, hb⟩ => ⟨none, h1, .inl ⟨he, rfl⟩, hb⟩
theorem rfrom_any (hn : (Lit.int .i64 n).wf = true) (hv : RU w v V) : Calls Tryd.prog 55 #[.int .i64 n, v] w fun e w' => ∃ q, e = .returned (.tuple #[.pointer q, .int .i64 (Bm.errF n V : Nat)]) ∧ GotR w w' q (Bm.errF n V) (Bm.bools n.toNat V) ∧ Below w.heap.size w w' := by
  unfold Bm.errF
  by_cases h : n < 1 ∨ 65536 < n
  · rw [if_pos h]
    exact (rfrom_err1 hn v h).out.mono fun e w' ⟨he, hb⟩ => ⟨none, he, .inl ⟨by decide, rfl⟩, hb⟩
  · rw [if_neg h]
    obtain ⟨m, rfl⟩ : ∃ m : Nat, n = m := ⟨n.toNat, by omega⟩
    rw [Int.toNat_natCast]
    by_cases he : Bm.validE m V = 0
    · rw [he]
      exact (rfrom_calls hv (Bm.ok_of_valid (by omega) (by omega) he)).mono fun e w' ⟨r, bb, he, hm, h1, h2, hb⟩ => ⟨_, he, .inr ⟨rfl, r, bb, rfl, hm, h1, h2⟩, hb⟩
    · exact (rfrom_err2 (by omega) (by omega) hv he).out.mono fun e w' ⟨h1, hb⟩ => ⟨none, h1, .inl ⟨he, rfl⟩, hb⟩
end
/-- The pair of bitmaps. -/
structure Pr (w : World) (P p bw ba r bb b n : Nat) (W : List UInt64) : Prop where
  hP : Rw w P 35 [.pointer (some ⟨p, 0, none⟩), .pointer (some ⟨r, 0, none⟩), .pointer (some ⟨b, 0, none⟩)]
  hm : BM w p bw ba n W
  hr : RM w r bb (Bm.bools n W)
  dP : P ≠ p ∧ P ≠ bw ∧ P ≠ ba ∧ P ≠ r ∧ P ≠ bb
  dr : r ≠ p ∧ r ≠ bw ∧ r ≠ ba
  db : bb ≠ p ∧ bb ≠ bw ∧ bb ≠ ba
def Pr.At (P p bw ba r bb : Nat) (k : Nat) : Prop := k = P ∨ k = p ∨ k = bw ∨ k = ba ∨ k = r ∨ k = bb
theorem Pr.mod {F : Nat → Prop} {w w' : World} {P p bw ba r bb b n : Nat} {W : List UInt64} (h : Pr w P p bw ba r bb b n W) (hm : Mod F w w') (hF : ∀ k, Pr.At P p bw ba r bb k → ¬ F k) : Pr w' P p bw ba r bb b n W :=
  ⟨h.hP.mod hm (hF _ (.inl rfl)), h.hm.mod hm (hF _ (.inr (.inl rfl))) (hF _ (.inr (.inr (.inl rfl)))) (hF _ (.inr (.inr (.inr (.inl rfl))))), h.hr.mod hm (hF _ (.inr (.inr (.inr (.inr (.inl rfl)))))) (hF _ (.inr (.inr (.inr (.inr (.inr rfl)))))), h.dP, h.dr, h.db⟩
theorem Pr.below {w w' : World} {P p bw ba r bb b n : Nat} {W : List UInt64} (h : Pr w P p bw ba r bb b n W) (hb : Below w.heap.size w w') : Pr w' P p bw ba r bb b n W := h.mod (F := fun _ => False) (Mod.of_below hb) (fun _ _ => id)
theorem Pr.lt {w : World} {P p bw ba r bb b n : Nat} {W : List UInt64} (h : Pr w P p bw ba r bb b n W) : ∀ k, Pr.At P p bw ba r bb k → k < w.heap.size := by
  rintro k (rfl | rfl | rfl | rfl | rfl | rfl)
  · exact heap_lt h.hP
  · exact heap_lt h.hm.hs
  · exact heap_lt h.hm.hw
  · exact heap_lt h.hm.ha
  · exact heap_lt h.hr.hs
  · exact heap_lt h.hr.hb
end Go.Proofs.YtckbckdaffdjmaaDoor

/- The Book asked: kept. -/
namespace Go.Proofs.YtckbckdaffdjmaaDoor
open Go.RowKit
set_option maxRecDepth 100000
set_option linter.unusedVariables false
set_option linter.unusedSimpArgs false

/-- What kept is told by. -/
structure KeptP (w : World) (b : Nat) (late : Bool) (v0 v2 v3 : Value) (K0 K2 K3 : List Value) : Prop where
  blk : Rw w b 31 [v0, .bool late, v2, v3]
  r0 : VU 0 w v0 K0
  r2 : VU 0 w v2 K2
  r3 : VU 0 w v3 K3
  len : K3.length = K2.length
  same : ∀ (i : Nat) (v u : Value), K2[i]? = some v → K3[i]? = some u → ∃ l l', RU w v l ∧ RU w u l' ∧ (late = true → l = l')
  marked : ∀ (i : Nat) (v : Value), K0[i]? = some v → ∃ n, RU w v (List.replicate n (mkN i))
  big : K0.length ≤ 5864062014805
  big2 : K2.length ≤ 5864062014805
theorem KeptP.below {w w' : World} {b : Nat} {late : Bool} {v0 v2 v3 : Value} {K0 K2 K3 : List Value} (h : KeptP w b late v0 v2 v3 K0 K2 K3) (hb : Below w.heap.size w w') : KeptP w' b late v0 v2 v3 K0 K2 K3 := by
  refine ⟨h.blk.below hb, h.r0.mod (F := fun _ => False) (Mod.of_below hb) (fun _ _ => id), h.r2.mod (F := fun _ => False) (Mod.of_below hb) (fun _ _ => id), h.r3.mod (F := fun _ => False) (Mod.of_below hb) (fun _ _ => id), h.len, fun i v u h1 h2 => ?_, fun i v h1 => ?_, h.big, h.big2⟩
  · obtain ⟨l, l', a, b, c⟩ := h.same i v u h1 h2
    exact ⟨l, l', a.below hb, b.below hb, c⟩
  · obtain ⟨n, a⟩ := h.marked i v h1
    exact ⟨n, a.below hb⟩
theorem mkN_wrap {i : Nat} (h : i ≤ 5864062014805) : IntKind.u64.wrap (11529215046068469761 + ((i - i % 2 : Nat) : Int)) = ((mkN i).toNat : Int) := by
  unfold mkN
  rw [Bm.toNat_of (by omega), show (11529215046068469761 : Int) + ((i - i % 2 : Nat) : Int) = ((11529215046068469761 + (i - i % 2) : Nat) : Int) by omega]
  exact wrap_nat (by omega)
set_option maxHeartbeats 8000000 in
theorem kept_calls {w : World} {b : Nat} {late : Bool} {v0 v2 v3 : Value} {K0 K2 K3 : List Value} (h : KeptP w b late v0 v2 v3 K0 K2 K3) :
    Pur Tryd.prog 24 #[.pointer (some ⟨b, 0, none⟩)] w (.bool true) := by
  unfold Pur
  have H := Lib.hid h
  obtain ⟨p0, q0, e0⟩ := h.r0.form
  obtain ⟨p2, q2, e2⟩ := h.r2.form
  obtain ⟨p3, q3, e3⟩ := h.r3.form
  obtain ⟨M0, hM0⟩ : ∃ M, M = K0.length := ⟨_, rfl⟩
  obtain ⟨M2, hM2⟩ : ∃ M, M = K2.length := ⟨_, rfl⟩
  rw [← hM0] at e0
  rw [← hM2] at e2
  rw [h.len, ← hM2] at e3
  have HM0 := Lib.hid hM0
  have HM2 := Lib.hid hM2
  clear h hM0 hM2
  subst e0 e2 e3
  go_enter Tryd.func24, Tryd.ntmps24
  go_wp2_with fail
  refine wp_loop_count (fun i a w' => (∃ U : Nat → Value, a = ⟨#[.pointer (some ⟨b, 0, none⟩), U 1, .bool false, .int .i64 i, U 4, U 5, U 6, U 7, U 8, U 9, U 10, U 11, U 12, U 13, U 14, U 15, U 16, U 17, U 18, U 19, U 20, U 21, U 22, U 23, U 24, U 25, U 26, U 27, U 28, U 29, U 30, U 31, U 32, U 33, U 34, U 35, U 36, U 37, U 38, U 39, U 40, U 41, U 42, U 43, U 44, U 45, U 46, U 47, U 48, U 49, U 50, U 51, U 52, U 53, U 54, U 55, U 56, U 57, U 58, U 59, U 60, U 61, U 62, U 63, U 64, U 65, U 66, U 67, U 68, U 69, U 70, U 71, U 72, U 73, U 74, U 75, U 76, U 77, U 78], []⟩) ∧ Below w.heap.size w w') M2 ⟨exU (fun U => ⟨#[.pointer (some ⟨b, 0, none⟩), U 1, .bool false, .int .i64 0, U 4, U 5, U 6, U 7, U 8, U 9, U 10, U 11, U 12, U 13, U 14, U 15, U 16, U 17, U 18, U 19, U 20, U 21, U 22, U 23, U 24, U 25, U 26, U 27, U 28, U 29, U 30, U 31, U 32, U 33, U 34, U 35, U 36, U 37, U 38, U 39, U 40, U 41, U 42, U 43, U 44, U 45, U 46, U 47, U 48, U 49, U 50, U 51, U 52, U 53, U 54, U 55, U 56, U 57, U 58, U 59, U 60, U 61, U 62, U 63, U 64, U 65, U 66, U 67, U 68, U 69, U 70, U 71, U 72, U 73, U 74, U 75, U 76, U 77, U 78], []⟩) rfl, Below.refl _ _⟩ ?_ ?_
  · rintro i a w' hi ⟨⟨U, rfl⟩, hb⟩
    have h' := H.out.below hb
    obtain ⟨v, hv⟩ : ∃ v, K2[i]? = some v := ⟨_, List.getElem?_eq_getElem (by rw [← HM2.out]; exact hi)⟩
    obtain ⟨u, hu⟩ : ∃ u, K3[i]? = some u := ⟨_, List.getElem?_eq_getElem (by rw [h'.len, ← HM2.out]; exact hi)⟩
    obtain ⟨g2, k2, ee2, lg2, cg2⟩ := h'.r2.get hv
    obtain ⟨g3, k3, ee3, lg3, cg3⟩ := h'.r3.get hu
    simp only [Value.slice.injEq] at ee2 ee3
    obtain ⟨rfl, -, rfl⟩ := ee2
    obtain ⟨rfl, -, rfl⟩ := ee3
    obtain ⟨l, l', hl, hl', hsm⟩ := h'.same i v u hv hu
    obtain ⟨B, hB⟩ : ∃ B, B = decide (l = l') := ⟨_, rfl⟩
    have hsw : ∀ w1, Below w'.heap.size w' w1 → Pur Tryd.prog 22 #[v, u] w1 (.bool B) := fun w1 hR => by rw [hB]; exact sameWords_any (hl.below hR) (hl'.below hR)
    have hBt : late = true → B = true := fun e => by rw [hB, hsm e]; simp
    obtain ⟨pv, cv, ev⟩ := hl.form
    obtain ⟨pu, cu, eu⟩ := hl'.form
    generalize l.length = Lv at ev
    generalize l'.length = Lu at eu
    subst ev eu
    have lb := heap_lt h'.blk
    have c1 := h'.blk.cell (i := 1) rfl
    have c2 := h'.blk.cell (i := 2) rfl
    have c3 := h'.blk.cell (i := 3) rfl
    have HSW := Lib.hid hsw
    have HBW := Lib.hid hb
    have hi' : (i : Int) < (M2 : Int) := by exact_mod_cast hi
    have hi0 : (0 : Int) ≤ (i : Int) := Int.natCast_nonneg i
    have hi9 : (M2 : Int) ≤ 5864062014805 := by have := h'.big2; have := HM2.out; omega
    clear h' hv hu hl hl' hsm hsw hB hb
    go_upto_region 4 with fail
    refine wp_region_R (Below w'.heap.size w') (by kernel_rfl) (by kernel_rfl) (by first | exact Below.refl _ _ | exact below_alloc1 _ _ | exact below_alloc2 _ _ _ | exact below_alloc3 _ _ _ _ | (repeat' (first | assumption | exact Below.refl _ _ | exact below_alloc1 _ _ | exact below_alloc2 _ _ _ | exact below_alloc3 _ _ _ _ | (refine Below.drew ?_) | (refine below_wb ?_ ?_) | (refine Below.alloc ?_ ?_ _) | omega | (simp; done) | (simp; omega)))) ?_
    (repeat (first | (apply wpR_pass rfl; (try simp only [Act.put, List.setIfInBounds_toArray, List.set_cons_succ, List.set_cons_zero])) | (apply wpR_val rfl; (focus (intro w1 hR; obtain ⟨hc, hf⟩ := bcellB hR; (try go_simp); (try exact Eq.refl _); done)); (try simp only [Act.put, List.setIfInBounds_toArray, List.set_cons_succ, List.set_cons_zero])) | (apply wpR_call rfl; (focus (intro w1 hR; obtain ⟨hc, hf⟩ := bcellB hR; (try go_simp); (try exact And.intro rfl rfl); done)); (focus (intro w1 hR; first | exact (HSW.out w1 hR).at_ (by first | omega | (simp; done) | (simp; omega)) hR)); (try simp only [Act.put, List.setIfInBounds_toArray, List.set_cons_succ, List.set_cons_zero])) | (apply wpR_val_want rfl; (focus (intro w1 hR; obtain ⟨hc, hf⟩ := bcellB hR; (try go_simp); (try exact Eq.refl _); done)); (try simp only [Act.put, List.setIfInBounds_toArray, List.set_cons_succ, List.set_cons_zero])) | (apply wpR_call_want rfl; (focus (intro w1 hR; obtain ⟨hc, hf⟩ := bcellB hR; (try go_simp); (try exact And.intro rfl rfl); done)); (focus (intro w1 hR; first | exact (HSW.out w1 hR).at_ (by first | omega | (simp; done) | (simp; omega)) hR)); (try simp only [Act.put, List.setIfInBounds_toArray, List.set_cons_succ, List.set_cons_zero]))))
    refine wpR_nil (fun w2 hb2 => ?_)
    have d1 := ((bcell hb2).1 b 1 lb).trans c1
    have HB2 := Lib.hid hb2
    clear hb2 c1 c2 c3 cg2 cg3
    cases late
    · clear hBt
      go_wp2_with fail
      exact ⟨exU (fun U => ⟨#[.pointer (some ⟨b, 0, none⟩), U 1, .bool false, .int .i64 (i + 1 : Nat), U 4, U 5, U 6, U 7, U 8, U 9, U 10, U 11, U 12, U 13, U 14, U 15, U 16, U 17, U 18, U 19, U 20, U 21, U 22, U 23, U 24, U 25, U 26, U 27, U 28, U 29, U 30, U 31, U 32, U 33, U 34, U 35, U 36, U 37, U 38, U 39, U 40, U 41, U 42, U 43, U 44, U 45, U 46, U 47, U 48, U 49, U 50, U 51, U 52, U 53, U 54, U 55, U 56, U 57, U 58, U 59, U 60, U 61, U 62, U 63, U 64, U 65, U 66, U 67, U 68, U 69, U 70, U 71, U 72, U 73, U 74, U 75, U 76, U 77, U 78], []⟩) rfl, HBW.out.trans (HB2.out.mono HBW.out.size)⟩
    · have hBt' := hBt rfl
      subst hBt'
      clear hBt
      go_wp2_with fail
      exact ⟨exU (fun U => ⟨#[.pointer (some ⟨b, 0, none⟩), U 1, .bool false, .int .i64 (i + 1 : Nat), U 4, U 5, U 6, U 7, U 8, U 9, U 10, U 11, U 12, U 13, U 14, U 15, U 16, U 17, U 18, U 19, U 20, U 21, U 22, U 23, U 24, U 25, U 26, U 27, U 28, U 29, U 30, U 31, U 32, U 33, U 34, U 35, U 36, U 37, U 38, U 39, U 40, U 41, U 42, U 43, U 44, U 45, U 46, U 47, U 48, U 49, U 50, U 51, U 52, U 53, U 54, U 55, U 56, U 57, U 58, U 59, U 60, U 61, U 62, U 63, U 64, U 65, U 66, U 67, U 68, U 69, U 70, U 71, U 72, U 73, U 74, U 75, U 76, U 77, U 78], []⟩) rfl, HBW.out.trans (HB2.out.mono HBW.out.size)⟩
  · rintro a w' ⟨⟨U, rfl⟩, hb⟩
    have h' := H.out.below hb
    have lb := heap_lt h'.blk
    have c2 := h'.blk.cell (i := 2) rfl
    have HBW := Lib.hid hb
    clear h' hb
    go_wp2_with fail
    refine wp_loop_count (fun i a w' => (∃ U : Nat → Value, a = ⟨#[.pointer (some ⟨b, 0, none⟩), U 1, .bool false, U 3, U 4, .int .i64 i, U 6, U 7, U 8, U 9, U 10, U 11, U 12, U 13, U 14, U 15, U 16, U 17, U 18, U 19, U 20, U 21, U 22, U 23, U 24, U 25, U 26, U 27, U 28, U 29, U 30, U 31, U 32, U 33, U 34, U 35, U 36, U 37, U 38, U 39, U 40, U 41, U 42, U 43, U 44, U 45, U 46, U 47, U 48, U 49, U 50, U 51, U 52, U 53, U 54, U 55, U 56, U 57, U 58, U 59, U 60, U 61, U 62, U 63, U 64, U 65, U 66, U 67, U 68, U 69, U 70, U 71, U 72, U 73, U 74, U 75, U 76, U 77, U 78], []⟩) ∧ Below w.heap.size w w') M0 ⟨exU (fun U => ⟨#[.pointer (some ⟨b, 0, none⟩), U 1, .bool false, U 3, U 4, .int .i64 0, U 6, U 7, U 8, U 9, U 10, U 11, U 12, U 13, U 14, U 15, U 16, U 17, U 18, U 19, U 20, U 21, U 22, U 23, U 24, U 25, U 26, U 27, U 28, U 29, U 30, U 31, U 32, U 33, U 34, U 35, U 36, U 37, U 38, U 39, U 40, U 41, U 42, U 43, U 44, U 45, U 46, U 47, U 48, U 49, U 50, U 51, U 52, U 53, U 54, U 55, U 56, U 57, U 58, U 59, U 60, U 61, U 62, U 63, U 64, U 65, U 66, U 67, U 68, U 69, U 70, U 71, U 72, U 73, U 74, U 75, U 76, U 77, U 78], []⟩) rfl, HBW.out⟩ ?_ ?_
    · clear HBW c2 lb
      rintro i a w' hi ⟨⟨U, rfl⟩, hb⟩
      have h' := H.out.below hb
      obtain ⟨v, hv⟩ : ∃ v, K0[i]? = some v := ⟨_, List.getElem?_eq_getElem (by rw [← HM0.out]; exact hi)⟩
      obtain ⟨g0, k0, ee0, lg0, cg0⟩ := h'.r0.get hv
      simp only [Value.slice.injEq] at ee0
      obtain ⟨rfl, -, rfl⟩ := ee0
      obtain ⟨n, hl⟩ := h'.marked i v hv
      have hib : i ≤ 5864062014805 := by have := H.out.big; have := HM0.out; omega
      have hmk1 : (11529215046068469761 : Int) + ((i : Int) - (i : Int) % 2) = ((mkN i).toNat : Int) := by
        unfold mkN; rw [Bm.toNat_of (by omega)]; omega
      obtain ⟨mk, hmkd⟩ : ∃ mk, mk = mkN i := ⟨_, rfl⟩
      rw [← hmkd] at hl hmk1
      obtain ⟨pv, cv, ev⟩ := hl.form
      rw [List.length_replicate] at ev
      subst ev
      have lb := heap_lt h'.blk
      have c0 := h'.blk.cell (i := 0) rfl
      have HL := Lib.hid hl
      have HBW := Lib.hid hb
      have HBLK := Lib.hid h'.blk
      have hi' : (i : Int) < (M0 : Int) := by exact_mod_cast hi
      have hi0 : (0 : Int) ≤ (i : Int) := Int.natCast_nonneg i
      have hi9 : (i : Int) ≤ 5864062014805 := by omega
      clear h' hv hl hb hmkd hib
      have HMK := Lib.hid hmk1
      clear hmk1
      go_wp2_with fail
      rw [HMK.out]
      obtain ⟨pl, cl, el, -, -, -, hr⟩ := HL.out
      simp only [Value.slice.injEq] at el
      obtain ⟨rfl, -, rfl⟩ := el
      have HR := Lib.hid hr
      have HN : Hid (n ≤ 17592186044416) := Lib.hid (by obtain ⟨_, _, _, _, _, h3, _⟩ := HL.out; rw [List.length_replicate] at h3; exact h3)
      clear hr HL
      refine wp_loop_count (fun j a w2 => (∃ U : Nat → Value, a = ⟨#[.pointer (some ⟨b, 0, none⟩), U 1, .bool false, U 3, U 4, .int .i64 i, uv mk, .int .i64 j, U 8, U 9, U 10, U 11, U 12, U 13, U 14, U 15, U 16, U 17, U 18, U 19, U 20, U 21, U 22, U 23, U 24, U 25, U 26, U 27, U 28, U 29, U 30, U 31, U 32, U 33, U 34, U 35, U 36, U 37, U 38, U 39, U 40, U 41, U 42, U 43, U 44, U 45, U 46, U 47, U 48, U 49, U 50, U 51, U 52, U 53, U 54, U 55, U 56, U 57, U 58, U 59, U 60, U 61, U 62, U 63, U 64, U 65, U 66, U 67, U 68, U 69, U 70, U 71, U 72, U 73, U 74, U 75, U 76, U 77, U 78], []⟩) ∧ Below w'.heap.size w' w2) n ⟨exU (fun U => ⟨#[.pointer (some ⟨b, 0, none⟩), U 1, .bool false, U 3, U 4, .int .i64 i, uv mk, .int .i64 0, U 8, U 9, U 10, U 11, U 12, U 13, U 14, U 15, U 16, U 17, U 18, U 19, U 20, U 21, U 22, U 23, U 24, U 25, U 26, U 27, U 28, U 29, U 30, U 31, U 32, U 33, U 34, U 35, U 36, U 37, U 38, U 39, U 40, U 41, U 42, U 43, U 44, U 45, U 46, U 47, U 48, U 49, U 50, U 51, U 52, U 53, U 54, U 55, U 56, U 57, U 58, U 59, U 60, U 61, U 62, U 63, U 64, U 65, U 66, U 67, U 68, U 69, U 70, U 71, U 72, U 73, U 74, U 75, U 76, U 77, U 78], []⟩) rfl, Below.refl _ _⟩ ?_ ?_
      · rintro j a w2 hj ⟨⟨U, rfl⟩, hb⟩
        obtain ⟨g, o, rfl, hg, hcell⟩ := HR.out j mk (by rw [List.getElem?_replicate, if_pos hj])
        have hcg := ((bcell hb).1 g _ hg).trans hcell
        have d0 := ((bcell hb).1 b 0 lb).trans c0
        have dg := ((bcell hb).1 g0 _ lg0).trans cg0
        have HB2 := Lib.hid hb
        have hj' : (j : Int) < (n : Int) := by exact_mod_cast hj
        have hj0 : (0 : Int) ≤ (j : Int) := Int.natCast_nonneg j
        have hj9 : (n : Int) ≤ 17592186044416 := by have := HN.out; omega
        clear hb hcell c0 cg0
        go_wp2_with fail
        exact ⟨exU (fun U => ⟨#[.pointer (some ⟨b, 0, none⟩), U 1, .bool false, U 3, U 4, .int .i64 i, uv mk, .int .i64 (j + 1 : Nat), U 8, U 9, U 10, U 11, U 12, U 13, U 14, U 15, U 16, U 17, U 18, U 19, U 20, U 21, U 22, U 23, U 24, U 25, U 26, U 27, U 28, U 29, U 30, U 31, U 32, U 33, U 34, U 35, U 36, U 37, U 38, U 39, U 40, U 41, U 42, U 43, U 44, U 45, U 46, U 47, U 48, U 49, U 50, U 51, U 52, U 53, U 54, U 55, U 56, U 57, U 58, U 59, U 60, U 61, U 62, U 63, U 64, U 65, U 66, U 67, U 68, U 69, U 70, U 71, U 72, U 73, U 74, U 75, U 76, U 77, U 78], []⟩) rfl, HB2.out⟩
      · rintro a w2 ⟨⟨U, rfl⟩, hb⟩
        have d0 := ((bcell hb).1 b 0 lb).trans c0
        have dg := ((bcell hb).1 g0 _ lg0).trans cg0
        have HB2 := Lib.hid hb
        have hj0 : (0 : Int) ≤ (n : Int) := Int.natCast_nonneg n
        have hi8 : (M0 : Int) ≤ 5864062014805 := by have := H.out.big; have := HM0.out; omega
        clear hb c0 cg0
        go_wp2_with fail
        exact ⟨exU (fun U => ⟨#[.pointer (some ⟨b, 0, none⟩), U 1, .bool false, U 3, U 4, .int .i64 (i + 1 : Nat), U 6, U 7, U 8, U 9, U 10, U 11, U 12, U 13, U 14, U 15, U 16, U 17, U 18, U 19, U 20, U 21, U 22, U 23, U 24, U 25, U 26, U 27, U 28, U 29, U 30, U 31, U 32, U 33, U 34, U 35, U 36, U 37, U 38, U 39, U 40, U 41, U 42, U 43, U 44, U 45, U 46, U 47, U 48, U 49, U 50, U 51, U 52, U 53, U 54, U 55, U 56, U 57, U 58, U 59, U 60, U 61, U 62, U 63, U 64, U 65, U 66, U 67, U 68, U 69, U 70, U 71, U 72, U 73, U 74, U 75, U 76, U 77, U 78], []⟩) rfl, HBW.out.trans (HB2.out.mono HBW.out.size)⟩
    · rintro a w' ⟨⟨U, rfl⟩, hb⟩
      have h' := H.out.below hb
      have lb := heap_lt h'.blk
      have c0 := h'.blk.cell (i := 0) rfl
      have HBW := Lib.hid hb
      clear h' hb
      go_wp2_with fail
      go_ret
      exact ⟨rfl, HBW.out⟩
end Go.Proofs.YtckbckdaffdjmaaDoor

/- NextClear. -/
namespace Go.Proofs.YtckbckdaffdjmaaDoor
open Go.RowKit
set_option maxRecDepth 100000
set_option linter.unusedVariables false
set_option linter.unusedSimpArgs false

namespace Bm
section
variable {n : Nat} {W : List UInt64}
/-- The first clear bit of the word, which may lie behind the end. -/
theorem clear_here {f : Nat} {x : UInt64} (hx : W[f / 64]? = some x) {y : Nat} (hy : y = (18446744073709551615 - x.toNat) / 2 ^ (f % 64)) (h0 : y ≠ 0) :
    Lib.ctz 64 y < 64 ∧ bit W (f + Lib.ctz 64 y) = false ∧ ∀ t, f ≤ t → t < f + Lib.ctz 64 y → bit W t = true := by
  have hn : ∀ t, (18446744073709551615 - x.toNat).testBit t = (decide (t < 64) && !x.toNat.testBit t) := fun t => not_bit x.toNat_lt t
  have hyl : y < 18446744073709551616 := by rw [hy]; exact Nat.lt_of_le_of_lt (Nat.div_le_self _ _) (by omega)
  obtain ⟨h1, h2, h3⟩ := ctz_bits h0 hyl
  generalize Lib.ctz 64 y = c at *
  subst hy
  rw [shift_bit, hn] at h2
  simp only [Bool.and_eq_true, decide_eq_true_eq, Bool.not_eq_true'] at h2
  refine ⟨h1, ?_, fun t ht1 ht2 => ?_⟩
  · rw [show f + c = 64 * (f / 64) + (f % 64 + c) by omega, bit_at hx h2.1]; exact h2.2
  · have := h3 (t - f) (by omega)
    rw [shift_bit, hn, decide_eq_true (by omega), Bool.true_and] at this
    rw [show t = 64 * (f / 64) + (f % 64 + (t - f)) by omega, bit_at hx (by omega)]
    simpa using this
theorem full_here {f : Nat} {x : UInt64} (hx : W[f / 64]? = some x) (h0 : (18446744073709551615 - x.toNat) / 2 ^ (f % 64) = 0) : ∀ t, f ≤ t → t < 64 * (f / 64 + 1) → bit W t = true := fun t h1 h2 => by
  have hn := not_bit x.toNat_lt (f % 64 + (t - f))
  rw [← shift_bit, h0, Nat.zero_testBit, decide_eq_true (by omega), Bool.true_and] at hn
  rw [show t = 64 * (f / 64) + (f % 64 + (t - f)) by omega, bit_at hx (by omega)]
  simpa using hn.symm
end
end Bm
theorem xor_all {x : Nat} (hx : x < 18446744073709551616) : 18446744073709551615 ^^^ x = 18446744073709551615 - x := by
  refine Nat.eq_of_testBit_eq fun i => ?_
  rw [Nat.testBit_xor, Bm.not_bit hx, show (18446744073709551615 : Nat) = 2 ^ 64 - 1 from rfl, Nat.testBit_two_pow_sub_one]
  by_cases e : i < 64
  · simp [e]
  · rw [Nat.testBit_lt_two_pow (Nat.lt_of_lt_of_le (show x < 2 ^ 64 from hx) (Nat.pow_le_pow_right (by decide) (by omega)))]; simp [e]
theorem not_word {x r : Nat} (hx : x < 18446744073709551616) : bits .xor .u64 (if IntKind.u64.signed = true then -1 else IntKind.u64.max) (x : Int) / 2 ^ r = (((18446744073709551615 - x) / 2 ^ r : Nat) : Int) := by
  have h1 : (if IntKind.u64.signed = true then (-1 : Int) else IntKind.u64.max) = ((18446744073709551615 : Nat) : Int) := rfl
  rw [h1, u64_xor_nat _ _ (by decide) hx, xor_all hx]
  exact div_nat _ _
set_option maxHeartbeats 8000000 in
theorem nextclear_calls {w : World} {p bw ba n : Nat} {W : List UInt64} (h : BM w p bw ba n W) (hT : Tz w) {from_ : Int} (hw : (Lit.int .i64 from_).wf = true) : Pur Tryd.prog 35 #[.pointer (some ⟨p, 0, none⟩), .int .i64 from_] w (.int .i64 (Bm.find (fun t => !Bm.bit W t) n from_.toNat)) := by
  unfold Pur
  have hmx := h.ok.max
  have hlen := h.ok.len
  have hrl := h.room_le
  have c0 := h.hs.cell (i := 0) rfl
  have c1 := h.hs.cell (i := 1) rfl
  have lp := heap_lt h.hs
  have lw := heap_lt h.hw
  have HM := Lib.hid h
  have HTZ : Hid (∀ w1, Below w.heap.size w w1 → ∀ x : Nat, x < 18446744073709551616 → x ≠ 0 → Pur Tryd.prog 71 #[.int .u64 x] w1 (.int .i64 (Lib.ctz 64 x))) := Lib.hid fun w1 hb x h1 h2 => tz_calls (hT.below hb) h1 h2
  have hw2 := i64_wf hw
  obtain ⟨f, hf⟩ : ∃ f, f = from_.toNat := ⟨_, rfl⟩
  obtain ⟨Z, hZ⟩ : ∃ Z, Z = Bm.find (fun t => !Bm.bit W t) n f := ⟨_, rfl⟩
  have HZ : Hid (∀ v, Bm.IsFind (fun t => !Bm.bit W t) n f v → v = Z) := Lib.hid fun v hv => by rw [hZ]; exact hv.eq
  rw [← hf, ← hZ]
  have hff : (from_ < 0 ∧ f = 0) ∨ (from_ = (f : Int) ∧ 0 ≤ from_) := by omega
  obtain ⟨R, hR⟩ : ∃ R, R = Bm.room n := ⟨_, rfl⟩
  rw [← hR] at c1 hlen hrl
  have HLEN := Lib.hid hlen
  have HRR : Hid (64 * R < n + 64 ∧ n ≤ 64 * R) := Lib.hid (by rw [hR]; unfold Bm.room; omega)
  have hr9 : (R : Int) ≤ 1024 := by omega
  have hfw : (f : Int) ≤ 9223372036854775807 := by omega
  clear h hT hZ hw hf hw2 hlen hR hrl
  go_enter Tryd.func35, Tryd.ntmps35
  go_upto_if 7 with fail
  rename_i hnext
  refine wp_cut (fun a' w' => Is (fun U => ⟨#[.pointer (some ⟨p, 0, none⟩), .int .i64 (f : Int), U 2, U 3, .int .i64 0, U 5, U 6, U 7, U 8, U 9, U 10, U 11, U 12, U 13, U 14, U 15, U 16, U 17, U 18, U 19, U 20, U 21, U 22, U 23, U 24, U 25, U 26, U 27, U 28, U 29, U 30, U 31, U 32, U 33, U 34, U 35, U 36, U 37, U 38, U 39, U 40, U 41, U 42, U 43], []⟩) a' ∧ w' = w) ?_ ?_
  · rintro a w' ⟨hU, hww⟩
    rw [hww]
    clear hww w'
    obtain ⟨U, rfl⟩ := hU.out
    refine hnext _ _ ?_
    clear hnext hff hU
    go_wp2_with fail
    refine wp_loop_ghost (fun z a w' => ∃ i : Nat, z = n - i ∧ Is (fun U => ⟨#[.pointer (some ⟨p, 0, none⟩), .int .i64 i, U 2, U 3, .int .i64 0, U 5, U 6, U 7, U 8, U 9, U 10, U 11, U 12, U 13, U 14, U 15, U 16, U 17, U 18, U 19, U 20, U 21, U 22, U 23, U 24, U 25, U 26, U 27, U 28, U 29, U 30, U 31, U 32, U 33, U 34, U 35, U 36, U 37, U 38, U 39, U 40, U 41, U 42, U 43], []⟩) a ∧ Below w.heap.size w w' ∧ f ≤ i ∧ (i = f ∨ i ≤ 70000) ∧ ∀ t, f ≤ t → t < i → Bm.bit W t = true) (n - f) ⟨f, rfl, isU (fun U => ⟨#[.pointer (some ⟨p, 0, none⟩), .int .i64 f, U 2, U 3, .int .i64 0, U 5, U 6, U 7, U 8, U 9, U 10, U 11, U 12, U 13, U 14, U 15, U 16, U 17, U 18, U 19, U 20, U 21, U 22, U 23, U 24, U 25, U 26, U 27, U 28, U 29, U 30, U 31, U 32, U 33, U 34, U 35, U 36, U 37, U 38, U 39, U 40, U 41, U 42, U 43], []⟩) rfl, Below.refl _ _, Nat.le_refl _, .inl rfl, fun t h1 h2 => by omega⟩ ?_
    rintro z a w' ⟨i, rfl, hU, hb, hfi, hi9, hno⟩
    obtain ⟨U, rfl⟩ := hU.out
    have HB := Lib.hid hb
    have HFI := Lib.hid hfi
    have HNO := Lib.hid hno
    have d0 := ((bcell hb).1 _ _ lp).trans c0
    have d1 := ((bcell hb).1 _ _ lp).trans c1
    have hi0 : (0 : Int) ≤ (i : Int) := Int.natCast_nonneg i
    clear hU hb hfi hno c0 c1
    by_cases hin : (i : Int) < (n : Int)
    · have hrr := HRR.out
      obtain ⟨x, hx⟩ : ∃ x, W[i / 64]? = some x := ⟨_, List.getElem?_eq_getElem (by rw [HLEN.out]; omega)⟩
      have cw := ((bcell HB.out).1 _ _ lw).trans (HM.out.hw.cell (i := i / 64) (v := uv x) (by simp [hx]))
      have hq0 : 0 ≤ (i : Int) / 64 := by omega
      have hq1 : (i : Int) / 64 < (R : Int) := by omega
      have hq2 : ((i : Int) / 64).toNat = i / 64 := by omega
      have hi8 : (i : Int) ≤ 65536 := by omega
      clear hrr hi9
      go_upto_region 5 with fail
      rename_i hnext
      obtain ⟨y, hy⟩ : ∃ y, y = (18446744073709551615 - x.toNat) / 2 ^ (i % 64) := ⟨_, rfl⟩
      have hyl : y < 18446744073709551616 := by rw [hy]; exact Nat.lt_of_le_of_lt (Nat.div_le_self _ _) (by omega)
      rw [not_word x.toNat_lt, ← hy]
      generalize bits .xor .u64 (if IntKind.u64.signed = true then -1 else IntKind.u64.max) (x.toNat : Int) = qq
      have HI := Lib.hid hin
      by_cases h0 : y = 0
      · have hy0 : ((y : Int) != 0) = false := by rw [h0]; rfl
        have HN1 := Lib.hid (Bm.full_here hx (by rw [← hy]; exact h0))
        clear hx hy h0 hyl cw hq1
        go_wp2_with fail
        have h1 := HI.out
        have h2 := HFI.out
        obtain ⟨m, hm⟩ : ∃ m : Nat, m = (i / 64 + 1) * 64 := ⟨_, rfl⟩
        have hmi : ((i : Int) / 64 + 1) * 64 = (m : Int) := by omega
        rw [hmi]
        refine ⟨n - m, by omega, m, rfl, isU (fun U => ⟨#[.pointer (some ⟨p, 0, none⟩), .int .i64 m, U 2, U 3, .int .i64 0, U 5, U 6, U 7, U 8, U 9, U 10, U 11, U 12, U 13, U 14, U 15, U 16, U 17, U 18, U 19, U 20, U 21, U 22, U 23, U 24, U 25, U 26, U 27, U 28, U 29, U 30, U 31, U 32, U 33, U 34, U 35, U 36, U 37, U 38, U 39, U 40, U 41, U 42, U 43], []⟩) rfl, HB.out, by omega, .inr (by omega), fun t h1 h2 => ?_⟩
        by_cases e : t < i
        · exact HNO.out t h1 e
        · exact HN1.out t (by omega) (by omega)
      · have hy0 : ((y : Int) != 0) = true := bne_iff_ne.2 fun e => h0 (Int.ofNat_inj.1 e)
        obtain ⟨hc64, hcb, hca⟩ := Bm.clear_here hx hy h0
        have htz := HTZ.out w' HB.out y hyl h0
        generalize Lib.ctz 64 y = c at *
        have hc1 : (c : Int) < 64 := by omega
        have hc0 : (0 : Int) ≤ (c : Int) := Int.natCast_nonneg c
        have HCB := Lib.hid hcb
        have HCA := Lib.hid hca
        clear hx hy h0 hyl hcb hca cw hq1
        by_cases hm : (n : Int) ≤ (i : Int) + (c : Int)
        · go_wp2_with (first | (go_at_call 71; refine htz.out.mono ?_; rintro e w2 ⟨rfl, hb2⟩; have e0 := ((bcell hb2).1 _ _ (Nat.lt_of_lt_of_le lp HB.out.size)).trans d0; have HB2 := Lib.hid hb2; clear hb2 d0 d1) | fail)
          go_ret
          exact ⟨congrArg (fun z => Ending.returned (.int .i64 z)) (HZ.out _ (.inl ⟨rfl, fun t h1 h2 => by
            show (!Bm.bit W t) = false
            by_cases e : t < i
            · rw [HNO.out t h1 e]; rfl
            · rw [HCA.out t (by omega) (by omega)]; rfl⟩)), HB.out.trans (HB2.out.mono HB.out.size)⟩
        · have hm' : (i : Int) + (c : Int) < (n : Int) := by omega
          go_wp2_with (first | (go_at_call 71; refine htz.out.mono ?_; rintro e w2 ⟨rfl, hb2⟩; have e0 := ((bcell hb2).1 _ _ (Nat.lt_of_lt_of_le lp HB.out.size)).trans d0; have HB2 := Lib.hid hb2; clear hb2 d0 d1) | fail)
          go_ret
          exact ⟨congrArg (fun z => Ending.returned (.int .i64 z)) (HZ.out _ (.inr ⟨i + c, by omega, by have := HFI.out; omega, by omega, by show (!Bm.bit W (i + c)) = true; rw [HCB.out]; rfl, fun t h1 h2 => by
            show (!Bm.bit W t) = false
            by_cases e : t < i
            · rw [HNO.out t h1 e]; rfl
            · rw [HCA.out t (by omega) (by omega)]; rfl⟩)), HB.out.trans (HB2.out.mono HB.out.size)⟩
    · have hin' : (n : Int) ≤ (i : Int) := by omega
      clear hi9
      go_wp2_with fail
      go_ret
      exact ⟨congrArg (fun z => Ending.returned (.int .i64 z)) (HZ.out _ (.inl ⟨rfl, fun t h1 h2 => by
        show (!Bm.bit W t) = false
        rw [HNO.out t h1 (by omega)]; rfl⟩)), HB.out⟩
  · intro J K' hJ hK'
    rcases hff with ⟨hneg, rfl⟩ | ⟨rfl, hpos⟩
    · go_wp2_with fail
      exact Met.intro (hJ _ _ ⟨isU (fun U => ⟨#[.pointer (some ⟨p, 0, none⟩), .int .i64 0, U 2, U 3, .int .i64 0, U 5, U 6, U 7, U 8, U 9, U 10, U 11, U 12, U 13, U 14, U 15, U 16, U 17, U 18, U 19, U 20, U 21, U 22, U 23, U 24, U 25, U 26, U 27, U 28, U 29, U 30, U 31, U 32, U 33, U 34, U 35, U 36, U 37, U 38, U 39, U 40, U 41, U 42, U 43], []⟩) rfl, rfl⟩)
    · go_wp2_with fail
      exact Met.intro (hJ _ _ ⟨isU (fun U => ⟨#[.pointer (some ⟨p, 0, none⟩), .int .i64 (f : Int), U 2, U 3, .int .i64 0, U 5, U 6, U 7, U 8, U 9, U 10, U 11, U 12, U 13, U 14, U 15, U 16, U 17, U 18, U 19, U 20, U 21, U 22, U 23, U 24, U 25, U 26, U 27, U 28, U 29, U 30, U 31, U 32, U 33, U 34, U 35, U 36, U 37, U 38, U 39, U 40, U 41, U 42, U 43], []⟩) rfl, rfl⟩)
end Go.Proofs.YtckbckdaffdjmaaDoor

/- CountRange. -/
namespace Go.Proofs.YtckbckdaffdjmaaDoor
open Go.RowKit
attribute [local go_sem] Oper.semAt_some
set_option maxRecDepth 100000
set_option linter.unusedVariables false
set_option linter.unusedSimpArgs false

namespace Bm
theorem pop_mask {W : List UInt64} {s E : Nat} (hs : s < E) {y : UInt64} (hy : W[s / 64]? = some y) : pop 64 (y.toNat &&& maskN E s) = cnt (bit W) s (stopN E s - s) := by
  have hst := stop_gt hs
  have hsl := stop_le (E := E) (s := s)
  rw [pop_cnt, cnt_split (a := s % 64) (c := stopN E s - s) (m := 64) _ (by omega)]
  have hb : ∀ t, (y.toNat &&& maskN E s).testBit t = (y.toNat.testBit t && decide (s % 64 ≤ t ∧ t < s % 64 + (stopN E s - s))) := fun t => by rw [Nat.testBit_and, maskN_bit hs]
  rw [cnt_none (a := 0) (s % 64) fun t ht => by rw [hb, decide_eq_false (by omega), Bool.and_false], cnt_none (a := s % 64 + (stopN E s - s)) _ fun t ht => by rw [hb, decide_eq_false (by omega), Bool.and_false], Nat.zero_add, Nat.add_zero]
  exact cnt_congr _ fun t ht => by
    rw [hb, decide_eq_true (by omega), Bool.and_true, show s + t = 64 * (s / 64) + (s % 64 + t) by omega, bit_at hy (by omega)]
theorem cnt_more (g : Nat → Bool) {f s t : Nat} (h : f ≤ s) (h' : s ≤ t) : cnt g f (s - f) + cnt g s (t - s) = cnt g f (t - f) := by
  have := cnt_add g f (s - f) (t - s)
  rw [show s - f + (t - s) = t - f by omega, show f + (s - f) = s by omega] at this
  exact this.symm
end Bm
set_option maxHeartbeats 8000000 in
theorem countrange_err {w : World} {p bw ba n : Nat} {W : List UInt64} (h : BM w p bw ba n W) {first count : Int} (h1 : (Lit.int .i64 first).wf = true) (h2 : (Lit.int .i64 count).wf = true) (he : Bm.rangeE n first count ≠ 0) :
    Pur Tryd.prog 39 #[.pointer (some ⟨p, 0, none⟩), .int .i64 first, .int .i64 count] w (.tuple #[.int .i64 0, .int .i64 (Bm.rangeE n first count : Nat)]) := by
  unfold Pur
  have hb1 := below_alloc1 w (.cells #[.pointer (some ⟨p, 0, none⟩)] 32)
  have hf := fits_calls (h.below hb1) h1 h2
  obtain ⟨E, hE⟩ : ∃ E, E = Bm.rangeE n first count := ⟨_, rfl⟩
  rw [← hE] at he hf ⊢
  have he' : (((E : Nat) : Int) != 0) = true := bne_iff_ne.2 fun e => he (Int.ofNat_inj.1 e)
  have HF := Lib.hid hf
  have HB := Lib.hid hb1
  clear h h1 h2 hE he hb1 hf
  go_enter Tryd.func39, Tryd.ntmps39
  go_wp2_with (first | (go_at_call 74; refine HF.out.out.mono ?_; rintro e w1 ⟨rfl, hb2⟩) | fail)
  refine bodyPost_ret (results_tmp2 rfl _ _ _) rfl ?_
  exact ⟨rfl, HB.out.trans (hb2.mono HB.out.size)⟩
/-- What CountRange leaves at each place. -/
structure CntI (w W' : World) (p bw ba n : Nat) (V : List UInt64) (C D f E Z s : Nat) : Prop where
  bm : BM W' p bw ba n V
  box : Rw W' C 32 [.pointer (some ⟨p, 0, none⟩)]
  cnt : Rw W' D 3 [.int .i64 (Bm.cnt (Bm.bit V) f (s - f) : Nat)]
  mod : Mod (fun _ => False) w W'
  fs : f ≤ s
  sE : s ≤ E
  sz : Z ≤ W'.heap.size
theorem CntI.step {w X Y : World} {p bw ba n C D f E Z s : Nat} {V : List UInt64} {F : Nat → Prop} (h : CntI w X p bw ba n V C D f E Z s) (hm : Mod F X Y) (hF : ∀ k, F k → k ≠ C ∧ k ≠ D ∧ w.heap.size ≤ k ∧ ¬ BM.At p bw ba k) : CntI w Y p bw ba n V C D f E Z s :=
  ⟨h.bm.mod hm (fun e => (hF _ e).2.2.2 (.inl rfl)) (fun e => (hF _ e).2.2.2 (.inr (.inl rfl))) (fun e => (hF _ e).2.2.2 (.inr (.inr rfl))), h.box.mod hm (fun e => (hF _ e).1 rfl), h.cnt.mod hm (fun e => (hF _ e).2.1 rfl), h.mod.on hm fun k e => .inr (hF k e).2.2.1, h.fs, h.sE, Nat.le_trans h.sz hm.size⟩
set_option maxHeartbeats 8000000 in
theorem countrange_calls {w : World} {p bw ba n : Nat} {V : List UInt64} (h : BM w p bw ba n V) {f c : Nat} (hfc : f + c ≤ n) :
    Pur Tryd.prog 39 #[.pointer (some ⟨p, 0, none⟩), .int .i64 f, .int .i64 c] w (.tuple #[.int .i64 (Bm.cnt (Bm.bit V) f c : Nat), .int .i64 0]) := by
  unfold Pur
  have hmx := h.ok.max
  have hb1 := below_alloc1 w (.cells #[.pointer (some ⟨p, 0, none⟩)] 32)
  have hbox : Rw (w.alloc (.cells #[.pointer (some ⟨p, 0, none⟩)] 32)) w.heap.size 32 [.pointer (some ⟨p, 0, none⟩)] := heap_new _ _ _ rfl
  obtain ⟨w1, hw1⟩ : ∃ w1, w1 = w.alloc (.cells #[.pointer (some ⟨p, 0, none⟩)] 32) := ⟨_, rfl⟩
  obtain ⟨C, hC⟩ : ∃ C, C = w.heap.size := ⟨_, rfl⟩
  rw [← hw1] at hb1 hbox
  rw [← hC] at hbox
  have hf := fits_calls (h.below hb1) (first := f) (count := c) (wf_nat (by omega)) (wf_nat (by omega))
  rw [show Bm.rangeE n f c = 0 by unfold Bm.rangeE; rw [if_neg (by omega), if_neg (by omega)]] at hf
  have HF := Lib.hid hf
  have HB1 := Lib.hid hb1
  have HBOX := Lib.hid hbox
  have HH := Lib.hid h
  have HFC := Lib.hid hfc
  have cC := hbox.cell (i := 0) rfl
  have hf0 : (0 : Int) ≤ (f : Int) := Int.natCast_nonneg f
  have hc0 : (0 : Int) ≤ (c : Int) := Int.natCast_nonneg c
  have hf1 : (f : Int) ≤ 65536 := by omega
  have hc1 : (c : Int) ≤ 65536 := by omega
  clear h hb1 hbox hf hfc hmx
  (refine callsIn_wide (n := 0).1 (callsIn_of_wp_marks Tryd.func39 rfl trivial (wpIn_wide.2 ?_) rfl); simp only [Tryd.ntmps39, List.size_toArray, List.length_cons, List.length_nil, Nat.reduceAdd, Nat.reduceSub, Array.replicate_succ, Array.replicate_zero, List.push_toArray, List.append_toArray, List.nil_append, List.cons_append])
  go_upto_region 1 with fail
  rw [← hw1, ← hC]
  have HC := Lib.hid hC
  clear hw1 hC
  go_upto_region 4 with (first | (go_at_call 74; refine HF.out.out.mono ?_; rintro e w2 ⟨rfl, hb2⟩; have HB2 := Lib.hid hb2; clear hb2) | fail)
  clear cC
  go_upto_region 5 with fail
  have hD0 : Rw (w2.alloc (.cells #[.int .i64 0] 3)) w2.heap.size 3 [.int .i64 0] := heap_new _ _ _ rfl
  have hbD := below_alloc1 w2 (.cells #[.int .i64 0] 3)
  have hsD : (w2.alloc (.cells #[.int .i64 0] 3)).heap.size = w2.heap.size + 1 := by simp
  obtain ⟨wb, hwb⟩ : ∃ wb, wb = w2.alloc (.cells #[.int .i64 0] 3) := ⟨_, rfl⟩
  obtain ⟨D, hDD⟩ : ∃ D, D = w2.heap.size := ⟨_, rfl⟩
  rw [← hwb] at hD0 hbD hsD ⊢
  rw [← hDD] at hD0 hsD ⊢
  have HD0 := Lib.hid hD0
  have HBD := Lib.hid hbD
  have HSD := Lib.hid (And.intro hDD hsD)
  clear hD0 hbD hsD hDD hwb
  go_wp2_with (first | (go_at_call 75; refine masks_calls.mono ?_; rintro e w3 ⟨A, B, rfl, hAB, hA, hB, hra, hrb, hb3⟩) | fail)
  have hw23 : wb.heap.size ≤ w3.heap.size := hb3.size
  have HAL := Lib.hid (And.intro (heap_lt hra) (heap_lt hrb))
  have hn3 : ∀ l, wb.heap.size ≤ l → l ≠ C ∧ l ≠ D ∧ w.heap.size ≤ l ∧ ¬ BM.At p bw ba l := fun l hl => by
    have h1 := heap_lt HH.out.hs
    have h2 := heap_lt HH.out.hw
    have h3 := heap_lt HH.out.ha
    have h4 := HB1.out.size
    have h5 := HB2.out.size
    have h6 := heap_lt HBOX.out
    have h7 := HSD.out
    exact ⟨by omega, by omega, by omega, by rintro (e | e | e) <;> omega⟩
  have HN3 := Lib.hid hn3
  have HDN : Hid (D ≠ C ∧ w.heap.size ≤ D ∧ ¬ BM.At p bw ba D ∧ A ≠ D ∧ B ≠ D) := Lib.hid (by
    have h1 := heap_lt HH.out.hs
    have h2 := heap_lt HH.out.hw
    have h3 := heap_lt HH.out.ha
    have h4 := HB1.out.size
    have h5 := HB2.out.size
    have h6 := heap_lt HBOX.out
    have h7 := HSD.out
    exact ⟨by omega, by omega, by rintro (e | e | e) <;> omega, by omega, by omega⟩)
  have hw3 : Mod (fun _ => False) w w3 := (((Mod.of_below HB1.out).onB HB2.out).onB HBD.out).onB hb3
  have H3 : Hid (CntI w w3 p bw ba n V C D f (f + c) w3.heap.size f) := Lib.hid ⟨HH.out.mod hw3 id id id, ((HBOX.out.below HB2.out).below HBD.out).below hb3, by rw [Nat.sub_self]; exact HD0.out.below hb3, hw3, Nat.le_refl _, by omega, Nat.le_refl _⟩
  clear hn3 hw3
  refine wp_range (a₁ := ?fr) (s0 := f) (hg := rfl) (eg := fun args w => by kernel_rfl) (hc := masks_iter (E := f + c) hra (by simpa using hrb) hAB (by have := HFC.out; have := HH.out.ok.max; omega)) (hps := fun _ => rfl) (hT := fun _ _ h => h.2)
    (hKt := fun h k => ⟨k.1.trans h.1, k.2.trans h.2⟩) (hKb := fun X l o o' hl ho hc => ⟨World.putObj_heap_other ?_, World.putObj_heap_other ?_⟩) (I := fun s W' => CntI w W' p bw ba n V C D f (f + c) w3.heap.size s) (Ix := fun _ _ => False) ?hIT ?hIxT ?hI ?hIx ?h0 ?hIv (hassign := ?assign) (hbody := ?body) (hdone := ?done) (hstop := ?stop)
  case assign =>
    intro l x X K hK
    simp only [Mk.enc]
    gi_wp2
    exact hK
  case body =>
    rintro l s x X hI ⟨hs, rfl⟩
    have hok := HH.out.ok
    have hfc := HFC.out
    have hrl := hI.bm.room_le.1
    have hk : s / 64 < Bm.room n := Bm.stop_room hs hfc
    have hlen : V.length = Bm.room n := hI.bm.ok.len
    obtain ⟨y, hy⟩ : ∃ y, V[s / 64]? = some y := ⟨_, List.getElem?_eq_getElem (by omega)⟩
    obtain ⟨z, hz⟩ : ∃ z : UInt64, z = UInt64.ofNat (y.toNat &&& Bm.maskN (f + c) s) := ⟨_, rfl⟩
    have hzn : z.toNat = y.toNat &&& Bm.maskN (f + c) s := by rw [hz]; exact Bm.toNat_of (Nat.and_lt_two_pow (n := 64) _ (Bm.maskN_lt hs))
    have hand : bits .and .u64 (y.toNat : Int) ((Bm.maskN (f + c) s : Nat) : Int) = ((z.toNat : Nat) : Int) := by
      rw [u64_and_nat _ _ y.toNat_lt (Bm.maskN_lt hs), hzn]
    have hpop : Bm.pop 64 z.toNat = Bm.cnt (Bm.bit V) s (Bm.stopN (f + c) s - s) := by rw [hzn]; exact Bm.pop_mask hs hy
    have hone := fun w1 => onescount_calls (w := w1) (x := z)
    have hsum := Bm.cnt_more (Bm.bit V) hI.fs (Nat.le_of_lt (Bm.stop_gt hs))
    have hle1 := Bm.cnt_le (Bm.bit V) f (s - f)
    have hle2 := Bm.pop_le 64 z.toNat
    rw [← hpop] at hsum
    have lC := heap_lt hI.box
    have lD := heap_lt hI.cnt
    have lp := heap_lt hI.bm.hs
    have lw := heap_lt hI.bm.hw
    have cC := hI.box.cell (i := 0) rfl
    have cD := hI.cnt.cell (i := 0) rfl
    have c1 := hI.bm.hs.cell (i := 1) rfl
    have cw := hI.bm.hw.cell (i := s / 64) (v := uv y) (by simp [hy])
    have hk1 : (((s / 64 : Nat) : Nat) : Int) < ((Bm.room n : Nat) : Int) := by exact_mod_cast hk
    have hk0 : (0 : Int) ≤ ((s / 64 : Nat) : Int) := Int.natCast_nonneg _
    have HI := Lib.hid hI
    have HS := Lib.hid hs
    have hsE : s ≤ 65536 := by have := HH.out.ok.max; omega
    obtain ⟨z1, hz1⟩ : ∃ z1, z1 = Bm.cnt (Bm.bit V) f (s - f) := ⟨_, rfl⟩
    obtain ⟨z2, hz2⟩ : ∃ z2, z2 = Bm.pop 64 z.toNat := ⟨_, rfl⟩
    rw [← hz1] at cD hsum hle1
    rw [← hz2] at hone hsum hle2
    have HSUM := Lib.hid hsum
    have hx1 : ((z1 : Nat) : Int) ≤ 65536 := by omega
    have hx2 : ((z2 : Nat) : Int) ≤ 64 := by omega
    have hx3 : (0 : Int) ≤ ((z1 : Nat) : Int) := Int.natCast_nonneg _
    have hx4 : (0 : Int) ≤ ((z2 : Nat) : Int) := Int.natCast_nonneg _
    obtain ⟨k, hkk⟩ : ∃ k, k = s / 64 := ⟨_, rfl⟩
    obtain ⟨m, hmm⟩ : ∃ m, m = Bm.maskN (f + c) s := ⟨_, rfl⟩
    rw [← hkk] at hk1 hk0 cw ⊢
    rw [← hmm] at hand ⊢
    have fD := hI.cnt.frozen 0
    clear hok hfc hrl hk hlen hy hI hs hkk hmm hra hrb hb3 hz hzn hpop hsum hle1 hle2 hz1 hz2 hsE
    gi_wp2_with fail
    refine wpIn_region_R_tail (Below X.heap.size X) 12 (by kernel_rfl) (by kernel_rfl) (by kernel_rfl) (fun ⟨_, _, h⟩ => h) (Below.drew (Below.refl _ _)) ?_
    (repeat (first | (apply wpR_pass rfl; (try simp only [Act.put, List.setIfInBounds_toArray, List.set_cons_succ, List.set_cons_zero])) | (apply wpR_val rfl; (focus (intro w1 hR; obtain ⟨hc, hf⟩ := bcellB hR; (try go_simp); (try exact Eq.refl _); done)); (try simp only [Act.put, List.setIfInBounds_toArray, List.set_cons_succ, List.set_cons_zero])) | (apply wpR_call rfl; (focus (intro w1 hR; obtain ⟨hc, hf⟩ := bcellB hR; (try go_simp); (try exact And.intro rfl rfl); done)); (focus (intro w1 hR; first | exact (hone _).at_ (by first | omega | (simp; done) | (simp; omega)) hR)); (try simp only [Act.put, List.setIfInBounds_toArray, List.set_cons_succ, List.set_cons_zero])) | (apply wpR_val_want rfl; (focus (intro w1 hR; obtain ⟨hc, hf⟩ := bcellB hR; (try go_simp); (try exact Eq.refl _); done)); (try simp only [Act.put, List.setIfInBounds_toArray, List.set_cons_succ, List.set_cons_zero])) | (apply wpR_call_want rfl; (focus (intro w1 hR; obtain ⟨hc, hf⟩ := bcellB hR; (try go_simp); (try exact And.intro rfl rfl); done)); (focus (intro w1 hR; first | exact (hone _).at_ (by first | omega | (simp; done) | (simp; omega)) hR)); (try simp only [Act.put, List.setIfInBounds_toArray, List.set_cons_succ, List.set_cons_zero]))))
    refine wpR_nil ?_
    intro w4 hb4
    have hD4 := HI.out.cnt.below hb4
    have cD4 := hD4.cell (i := 0) rfl
    have fD4 := hD4.frozen 0
    have HB4 := Lib.hid hb4
    have HD4 := Lib.hid hD4
    clear hb4 hand cw c1 cC cD hD4 fD
    go_wp2_with fail
    have h0 : CntI w w4 p bw ba n V C D f (f + c) w3.heap.size s := HI.out.step (F := fun _ => False) (Mod.of_below HB4.out) fun _ e => e.elim
    have hm5 : Mod (fun k => k = D) w4 (w4.setCell ⟨D, 0, none⟩ (.int .i64 ((z1 : Int) + (z2 : Int)))) := Mod.setCell _ _ _ _ rfl
    have hdn := HDN.out
    have hsum := HSUM.out
    have hAl := HAL.out
    have hsz := h0.sz
    have hX : Mod (fun k => k = D) X (w4.setCell ⟨D, 0, none⟩ (.int .i64 ((z1 : Int) + (z2 : Int)))) := (Mod.of_below HB4.out).trans hm5
    have hset := h0.cnt.set 0 (.int .i64 ((z1 : Int) + (z2 : Int)))
    have hszX := HI.out.sz
    exact ⟨KeepsOthers.of_mod hX (fun j e => by subst e; exact ⟨_, _, _, HI.out.cnt⟩), ⟨hX.block A (by omega) hdn.2.2.2.1, hX.block B (by omega) hdn.2.2.2.2⟩, _, rfl,
      ⟨h0.bm.mod hm5 (fun e => hdn.2.2.1 (.inl e.symm)) (fun e => hdn.2.2.1 (.inr (.inl e.symm))) (fun e => hdn.2.2.1 (.inr (.inr e.symm))), h0.box.mod hm5 (fun e => hdn.1 e.symm),
        by rw [← hsum]; exact hset, h0.mod.on hm5 (fun k e => .inr (by subst e; exact hdn.2.1)), Nat.le_trans h0.fs (Nat.le_of_lt (Bm.stop_gt HS.out)), Bm.stop_le.1, Nat.le_trans hsz hm5.size⟩⟩
  case hIT =>
    rintro s X Y h ht
    exact h.step ht.1 fun k e => by subst e; exact HN3.out _ hA
  case hIxT => exact fun _ _ _ h _ => h
  case hI =>
    intro s X l o o' h hl ho hc
    exact h.step (mod_putObj _ _ _) fun k e => by subst e; exact HN3.out _ (Nat.le_trans hw23 hl)
  case hIx => exact fun _ _ _ _ _ h _ _ _ => h
  case h0 =>
    intro W1 hb
    exact H3.out.step (F := fun _ => False) (Mod.of_below hb) fun _ e => e.elim
  case hIv => exact fun _ _ _ => trivial
  case done =>
    intro Dd s X hD hI hfin hdef
    have hse : s = f + c := by have := hI.sE; omega
    subst hse
    have cD := hI.cnt.cell (i := 0) rfl
    rw [show f + c - f = c by omega] at cD
    have HI := Lib.hid hI
    have HD := Lib.hid hdef
    clear hI hdef hfin hra hrb hb3
    go_wp2_with fail
    refine ⟨by simp, .inl ⟨_, _, rfl, run_takeDeferred HD.out, ?_⟩⟩
    have hf : CntI w (X.putObj Dd (.deferred none)) p bw ba n V C D f (f + c) w3.heap.size (f + c) := HI.out.step (mod_putObj _ _ _) fun k e => by subst e; exact HN3.out _ (Nat.le_trans hw23 hD)
    exact ⟨_, results_tmp2 rfl _ _ _, rfl, hf.mod.below (Nat.le_refl _) fun _ e => e.elim⟩
  case stop => exact fun _ _ _ _ h _ => h.elim
  all_goals (intro e; have := HAL.out; omega)
end Go.Proofs.YtckbckdaffdjmaaDoor
