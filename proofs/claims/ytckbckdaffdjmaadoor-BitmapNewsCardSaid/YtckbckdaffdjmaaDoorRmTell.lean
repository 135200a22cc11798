/- The document's bitmap: Upper, Words, Summary, CountRange, Count. -/
import Derived.Test.YtckbckdaffdjmaaDoorRmNew2
namespace Go.Proofs.YtckbckdaffdjmaaDoor
open Go.RowKit
set_option maxRecDepth 100000
set_option linter.unusedVariables false
set_option linter.unusedSimpArgs false

theorem NewU.ru {w w' : World} {v : Value} {W : List UInt64} (h : NewU w w' v W) (hl : W.length ≤ 17592186044416) : RU w' v W := by
  obtain ⟨g, rfl, hr, _, _⟩ := h
  exact Rw.ru (t := []) (by simpa using hr) rfl (Nat.le_refl _) (by simp only [maxLen]; omega) hl
set_option maxHeartbeats 4000000 in
theorem upper_calls {w : World} {v : Value} {W : List UInt64} (h : RU w v W) (hmax : W.length ≤ 65536) :
    Calls Tryd.prog 96 #[v] w fun e w' => ∃ v, e = .returned v ∧ NewU w w' v (Bm.upper W) := by
  obtain ⟨q, cp, rfl, k1, k2, k3, hr⟩ := h
  have HR := Lib.hid hr
  have hm := bo_made W.length (by omega)
  rw [bo_cells] at hm
  clear hr
  obtain ⟨bs, hbs⟩ : ∃ bs, bs = W.map (fun x => decide (x ≠ 0)) := ⟨_, rfl⟩
  have hbl : bs.length = W.length := by rw [hbs, List.length_map]
  have hbg : ∀ (i : Nat) (x : UInt64), W[i]? = some x → bs[i]? = some (decide (x ≠ 0)) := fun i x hx => by rw [hbs, List.getElem?_map, hx]; rfl
  unfold Bm.upper
  rw [← hbs]
  clear hbs
  obtain ⟨L, hL⟩ : ∃ L, L = W.length := ⟨_, rfl⟩
  have HL := Lib.hid hL
  rw [← hL] at k1 k3 hm hmax hbl ⊢
  have HG := Lib.hid hbg
  clear hbg hL
  go_enter Tryd.func96, Tryd.ntmps96
  go_wp2_with fail
  refine wp_loop_count (fun i a w' => (∃ U : Nat → Value, a = ⟨#[.slice q L cp, U 1, U 2, .slice (some ⟨w.heap.size, 0, none⟩) L L, .int .i64 i, U 5, U 6, U 7, U 8, U 9, U 10, U 11, U 12, U 13, U 14, U 15, U 16, U 17, U 18, U 19, U 20, U 21, U 22, U 23], []⟩) ∧ Rw w' w.heap.size 4 ((Bm.part bs false i).map Value.bool) ∧ Below w.heap.size w w') L ⟨exU (fun U => ⟨#[.slice q L cp, U 1, U 2, .slice (some ⟨w.heap.size, 0, none⟩) L L, .int .i64 0, U 5, U 6, U 7, U 8, U 9, U 10, U 11, U 12, U 13, U 14, U 15, U 16, U 17, U 18, U 19, U 20, U 21, U 22, U 23], []⟩) rfl, by rw [Bm.part_zero, hbl]; exact (heap_new _ _ _ rfl).trans (by simp), below_alloc1 _ _⟩ ?_ ?_
  · rintro i a w' hi ⟨⟨U, rfl⟩, hrow, hbi⟩
    obtain ⟨x, hx⟩ : ∃ x, W[i]? = some x := ⟨_, List.getElem?_eq_getElem (by rw [← HL.out]; exact hi)⟩
    obtain ⟨g, o, rfl, hg, hcell⟩ := HR.out _ _ hx
    have hcell' := ((bcell hbi).1 g _ hg).trans hcell
    have hb := HG.out _ _ hx
    have hbv : ((x.toNat : Int) != 0) = decide (x ≠ 0) := by
      by_cases e : x = 0
      · subst e; rfl
      · rw [decide_eq_true e]; exact bne_iff_ne.2 fun e' => e (UInt64.toNat_inj.1 (Int.ofNat_inj.1 e'))
    obtain ⟨z, hz⟩ : ∃ z, z = decide (x ≠ 0) := ⟨_, rfl⟩
    rw [← hz] at hb hbv
    have hnext := Bm.part_next false hb
    have hold := Bm.part_get bs false (i := i) (by omega)
    have hc0 := hrow.cell (i := i) (v := .bool false) (by simp [hold])
    have hf0 := hrow.frozen i
    have hset := hrow.set i (.bool z)
    rw [← List.map_set, hnext] at hset
    have hbe : Below w.heap.size w (w'.setCell ⟨w.heap.size, i, none⟩ (.bool z)) := hbi.setCell (p := ⟨w.heap.size, i, none⟩) (Nat.le_refl _) _
    have HS := Lib.hid hset
    have HB := Lib.hid hbe
    have hi' : (i : Int) < (L : Int) := by exact_mod_cast hi
    have hi0 : (0 : Int) ≤ (i : Int) := Int.natCast_nonneg i
    clear hm hbl hx hb hnext hold hrow hset hbe hbi hz
    go_wp2_with fail
    exact ⟨exU (fun U => ⟨#[.slice (some ⟨g, o, none⟩) L cp, U 1, U 2, .slice (some ⟨w.heap.size, 0, none⟩) L L, .int .i64 (i + 1 : Nat), U 5, U 6, U 7, U 8, U 9, U 10, U 11, U 12, U 13, U 14, U 15, U 16, U 17, U 18, U 19, U 20, U 21, U 22, U 23], []⟩) rfl, HS.out, HB.out⟩
  · rintro a w' ⟨⟨U, rfl⟩, hrow, hbi⟩
    have ha := Bm.part_all bs false
    rw [hbl] at ha
    rw [ha] at hrow
    have hp := pack_calls hrow (by rw [hbl]; exact hmax)
    rw [hbl] at hp
    have hsz := hbi.size
    have HB := Lib.hid hbi
    clear hm hbl ha hrow hbi
    go_wp2_with (first | (go_at_call 95; refine hp.mono ?_; rintro e w2 ⟨v2, rfl, g2, rfl, hr2, hg2, hb2⟩) | fail)
    go_ret
    exact ⟨_, rfl, g2, rfl, hr2, Nat.le_trans hsz hg2, HB.out.trans (hb2.mono hsz)⟩
set_option maxHeartbeats 4000000 in
theorem rwords_calls {w : World} {r bb : Nat} {bs : List Bool} (h : RM w r bb bs) : Calls Tryd.prog 63 #[.pointer (some ⟨r, 0, none⟩)] w fun e w' => ∃ v, e = .returned v ∧ NewU w w' v (Bm.pack bs) := by
  have c0 := h.hs.cell (i := 0) rfl
  have hp := pack_calls h.hb h.max
  go_enter Tryd.func63, Tryd.ntmps63
  go_wp2_with (first | (go_at_call 95; refine hp.mono ?_; rintro e w2 ⟨v2, rfl, hv2⟩) | fail)
  go_ret
  exact ⟨_, rfl, hv2⟩
set_option maxHeartbeats 4000000 in
theorem rsummary_calls {w : World} {r bb : Nat} {bs : List Bool} (h : RM w r bb bs) : Calls Tryd.prog 65 #[.pointer (some ⟨r, 0, none⟩)] w fun e w' => ∃ v, e = .returned v ∧ NewU w w' v (Bm.upper (Bm.pack bs)) := by
  have c0 := h.hs.cell (i := 0) rfl
  have hp := pack_calls h.hb h.max
  have hmx := h.max
  have hpl : (Bm.pack bs).length ≤ 65536 := by rw [Bm.pack_length]; unfold Bm.room; omega
  clear h
  go_enter Tryd.func65, Tryd.ntmps65
  go_wp2_with (first | (go_at_call 95; refine hp.mono ?_; rintro e w2 ⟨v2, rfl, hv2⟩; have hb2 : Below w.heap.size w w2 := hv2.elim fun g hg => hg.2.2.2; have hup := upper_calls (hv2.ru (by omega)) hpl) | (go_at_call 96; refine hup.mono ?_; rintro e w3 ⟨v3, rfl, g3, rfl, hr3, hg3, hb3⟩) | fail)
  go_ret
  have hs2 := hb2.size
  exact ⟨_, rfl, g3, rfl, hr3, Nat.le_trans hs2 hg3, hb2.trans (hb3.mono hs2)⟩
namespace Bm
/-- The errors of a range. -/
def rangeE (n first count : Int) : Nat := if count < 0 then 1 else if first < 0 ∨ n < first ∨ n - first < count then 2 else 0
theorem rangeE_ok {n first count : Int} (h : rangeE n first count = 0) : 0 ≤ count ∧ 0 ≤ first ∧ first ≤ n ∧ count ≤ n - first := by
  unfold rangeE at h
  split at h
  · cases h
  · split at h
    · cases h
    · omega
end Bm
set_option maxHeartbeats 4000000 in
theorem ranged_calls {w : World} {r bb : Nat} {bs : List Bool} (h : RM w r bb bs) {first count : Int} (h1 : (Lit.int .i64 first).wf = true) (h2 : (Lit.int .i64 count).wf = true) : Pur Tryd.prog 94 #[.pointer (some ⟨r, 0, none⟩), .int .i64 first, .int .i64 count] w (.int .i64 (Bm.rangeE bs.length first count : Nat)) := by
  unfold Pur
  have c0 := h.hs.cell (i := 0) rfl
  have hmx := h.max
  unfold Bm.rangeE
  go_enter Tryd.func94, Tryd.ntmps94
  by_cases e1 : count < 0
  · rw [if_pos e1]
    go_wp2_with fail
    go_ret
    exact ⟨rfl, Below.refl _ _⟩
  · rw [if_neg e1]
    by_cases e2 : first < 0
    · rw [if_pos (.inl e2)]
      go_wp2_with fail
      go_ret
      exact ⟨rfl, Below.refl _ _⟩
    · by_cases e3 : (bs.length : Int) < first
      · rw [if_pos (.inr (.inl e3))]
        go_wp2_with fail
        go_ret
        exact ⟨rfl, Below.refl _ _⟩
      · by_cases e4 : (bs.length : Int) - first < count
        · rw [if_pos (.inr (.inr e4))]
          go_wp2_with fail
          go_ret
          exact ⟨rfl, Below.refl _ _⟩
        · rw [if_neg (by omega)]
          go_wp2_with fail
          go_ret
          exact ⟨rfl, Below.refl _ _⟩
end Go.Proofs.YtckbckdaffdjmaaDoor
