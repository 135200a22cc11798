/- The law's own functions on lists of words: copied, sameWords, intact. -/
import Derived.Test.YtckbckdaffdjmaaDoorBkKn
namespace Go.Proofs.YtckbckdaffdjmaaDoor
open Go.RowKit
set_option maxRecDepth 100000
set_option linter.unusedVariables false
set_option linter.unusedSimpArgs false

/-- What lies behind the end. -/
def beU : UInt64 := 13835058055282163719
theorem beU_v : (beU.toNat : Int) = 13835058055282163719 := rfl
/-- Behind i words of the copy. -/
def fillU (W : List UInt64) (i : Nat) : List UInt64 := W.take i ++ List.replicate (W.length + 3 - i) beU
theorem fillU_zero (W : List UInt64) : fillU W 0 = List.replicate (W.length + 3) beU := by simp [fillU]
theorem fillU_all (W : List UInt64) : fillU W W.length = W ++ [beU, beU, beU] := by
  unfold fillU
  rw [List.take_length, show W.length + 3 - W.length = 3 by omega]; rfl
theorem fillU_length {W : List UInt64} {i : Nat} (h : i ≤ W.length) : (fillU W i).length = W.length + 3 := by
  unfold fillU
  rw [List.length_append, List.length_take, List.length_replicate]; omega
theorem fillU_next {W : List UInt64} {i : Nat} {x : UInt64} (h : W[i]? = some x) : (fillU W i).set i x = fillU W (i + 1) := by
  have hi := (List.getElem?_eq_some_iff.1 h).1
  apply List.ext_getElem?
  intro j
  unfold fillU
  by_cases e : i = j
  · subst e
    rw [List.getElem?_set_self (by rw [List.length_append, List.length_take, List.length_replicate]; omega), List.getElem?_append_left (by rw [List.length_take]; omega), List.getElem?_take, if_pos (by omega), h]
  · rw [List.getElem?_set_ne e]
    by_cases hj : j < i
    · rw [List.getElem?_append_left (by rw [List.length_take]; omega), List.getElem?_append_left (by rw [List.length_take]; omega), List.getElem?_take, List.getElem?_take, if_pos hj, if_pos (by omega)]
    · rw [List.getElem?_append_right (by rw [List.length_take]; omega), List.getElem?_append_right (by rw [List.length_take]; omega), List.length_take, List.length_take, List.getElem?_replicate, List.getElem?_replicate, Nat.min_eq_left (by omega), Nat.min_eq_left (by omega)]
      by_cases h2 : j < W.length + 3
      · rw [if_pos (by omega), if_pos (by omega)]
      · rw [if_neg (by omega), if_neg (by omega)]
/-- v' is the copy of v, from block B on. -/
def Cop (B : Nat) (w : World) (v v' : Value) (W : List UInt64) : Prop :=
  (∃ c, v = .slice none 0 c ∧ W = [] ∧ v' = .slice none 0 0) ∨
  (∃ a c g, v = .slice (some a) W.length c ∧ v' = .slice (some ⟨g, 0, none⟩) W.length (W.length + 3) ∧ B ≤ g ∧ Rw w g 58 ((W ++ [beU, beU, beU]).map uv))
theorem Cop.mod {F : Nat → Prop} {B : Nat} {w w' : World} {v v' : Value} {W : List UInt64} (h : Cop B w v v' W) (hm : Mod F w w') (hf : ∀ g, v'.ownBlock = some g → ¬ F g) : Cop B w' v v' W := by
  rcases h with h | ⟨a, c, g, h1, rfl, h3, h4⟩
  · exact .inl h
  · exact .inr ⟨a, c, g, h1, rfl, h3, h4.mod hm (hf g rfl)⟩
theorem Cop.below {B : Nat} {w w' : World} {v v' : Value} {W : List UInt64} (h : Cop B w v v' W) (hb : Below w.heap.size w w') : Cop B w' v v' W := h.mod (F := fun _ => False) (Mod.of_below hb) (fun _ _ => id)
theorem Cop.ou {B : Nat} {w : World} {v v' : Value} {W : List UInt64} (h : Cop B w v v' W) (hl : W.length + 3 ≤ 17592186044416) : OU B w v' W := by
  rcases h with ⟨c, h1, rfl, rfl⟩ | ⟨a, c, g, h1, rfl, h3, h4⟩
  · exact OU.nil_ B w
  · refine ⟨⟨by simp, .inr ⟨g, W.length + 3, ((W ++ [beU, beU, beU]).map uv).toArray, rfl, h3, h4, by omega, by simp only [maxLen]; omega, by simp, ?_⟩⟩, by omega⟩
    rw [Nat.mul_one, List.map_append]
    show ((W.map uv ++ _)).take W.length = _
    rw [List.take_append_of_le_length (by simp), List.take_of_length_le (by simp)]
set_option maxHeartbeats 4000000 in
theorem copied_calls {w : World} {v : Value} {W : List UInt64} (h : RU w v W) (hl : W.length + 3 ≤ 17592186044416) :
    Calls Tryd.prog 19 #[v] w fun e w' => ∃ v', e = .returned v' ∧ Cop w.heap.size w' v v' W ∧ Below w.heap.size w w' := by
  have HR := Lib.hid h
  have hm := uy_made (W.length + 3) (by omega)
  obtain ⟨p, c, hv⟩ := h.form
  have hnil : p = none → W = [] := by
    intro e
    obtain ⟨p', c', e', _, _, _, hr⟩ := h
    rw [hv] at e'
    simp only [Value.slice.injEq] at e'
    obtain ⟨rfl, -, -⟩ := e'
    cases W with
    | nil => rfl
    | cons b r => obtain ⟨g, o, e1, _⟩ := hr 0 b rfl; rw [e] at e1; cases e1
  clear h
  subst hv
  cases p with
  | none =>
    have := hnil rfl
    subst this
    go_enter Tryd.func19, Tryd.ntmps19
    clear hm hnil hl
    go_wp2_with fail
    go_ret
    exact ⟨_, rfl, .inl ⟨c, rfl, rfl, rfl⟩, Below.refl _ _⟩
  | some a =>
    clear hnil
    obtain ⟨L, hL⟩ : ∃ L, L = W.length := ⟨_, rfl⟩
    have HL := Lib.hid hL
    rw [← hL] at hm hl HR ⊢
    clear hL
    have hl2 : (L : Int) + 3 ≤ 17592186044416 := by omega
    have hl0 : (0 : Int) ≤ (L : Int) := Int.natCast_nonneg L
    have hl1 : (L : Int) + 3 = ((L + 3 : Nat) : Int) := by omega
    rw [← hl1] at hm
    replace hm := hm w
    rw [made_cells] at hm
    have hrow0 : Rw (w.alloc (.cells (((List.replicate (L + 3) (0 : UInt64)).map uv).toArray) 58)) w.heap.size 58 ((List.replicate 0 beU ++ (List.replicate (L + 3) (0 : UInt64)).drop 0).map uv) := by
      exact heap_new w (.cells (((List.replicate (L + 3) (0 : UInt64)).map uv).toArray) 58) w.heap.size rfl
    have HROW0 := Lib.hid hrow0
    have HB0 := Lib.hid (below_alloc1 w (.cells (((List.replicate (L + 3) (0 : UInt64)).map uv).toArray) 58))
    have HL3 := Lib.hid hl
    obtain ⟨w0, hw0⟩ : ∃ w0, w0 = w.alloc (.cells (((List.replicate (L + 3) (0 : UInt64)).map uv).toArray) 58) := ⟨_, rfl⟩
    rw [← hw0] at hm HROW0 HB0
    clear hrow0 hw0 hl1
    go_enter Tryd.func19, Tryd.ntmps19
    go_wp2_with fail
    refine wp_loop_count (fun i a' w' => Is (fun U => ⟨#[.slice (some a) L c, U 1, U 2, .slice (some ⟨w.heap.size, 0, none⟩) (L + 3) (L + 3), .int .i64 i, U 5, U 6, U 7, U 8, U 9, U 10, U 11, U 12, U 13, U 14, U 15, U 16, U 17, U 18, U 19, U 20, U 21, U 22, U 23, U 24, U 25, U 26, U 27, U 28, U 29, U 30, U 31, U 32, U 33, U 34, U 35, U 36, U 37], []⟩) a' ∧ Rw w' w.heap.size 58 ((List.replicate i beU ++ (List.replicate (L + 3) (0 : UInt64)).drop i).map uv) ∧ Below w.heap.size w w') (L + 3) ⟨isU (fun U => ⟨#[.slice (some a) L c, U 1, U 2, .slice (some ⟨w.heap.size, 0, none⟩) (L + 3) (L + 3), .int .i64 0, U 5, U 6, U 7, U 8, U 9, U 10, U 11, U 12, U 13, U 14, U 15, U 16, U 17, U 18, U 19, U 20, U 21, U 22, U 23, U 24, U 25, U 26, U 27, U 28, U 29, U 30, U 31, U 32, U 33, U 34, U 35, U 36, U 37], []⟩) rfl, HROW0.out, HB0.out⟩ ?_ ?_
    · rintro i a' w' hi ⟨hU, hrow, hb⟩
      obtain ⟨U, rfl⟩ := hU.out
      have hset := hrow.set i (uv beU)
      rw [← List.map_set, rep_set _ _ (by simpa using hi)] at hset
      have hc0 : w'.cell? ⟨w.heap.size, i, none⟩ = some (uv 0) := hrow.cell (by
        rw [List.getElem?_map, List.getElem?_append_right (by simp), List.length_replicate, Nat.sub_self, List.getElem?_drop, List.getElem?_replicate, if_pos (by omega)]; rfl)
      have hf0 := hrow.frozen i
      have hbe : Below w.heap.size w (w'.setCell ⟨w.heap.size, i, none⟩ (uv beU)) := hb.setCell (p := ⟨w.heap.size, i, none⟩) (Nat.le_refl _) _
      have HS := Lib.hid hset
      have HB := Lib.hid hbe
      have hi' : (i : Int) < (L : Int) + 3 := by exact_mod_cast hi
      have hi0 : (0 : Int) ≤ (i : Int) := Int.natCast_nonneg i
      clear hm hU hrow hset hb hbe
      go_wp2_with fail
      exact ⟨isU (fun U => ⟨#[.slice (some a) L c, U 1, U 2, .slice (some ⟨w.heap.size, 0, none⟩) (L + 3) (L + 3), .int .i64 (i + 1 : Nat), U 5, U 6, U 7, U 8, U 9, U 10, U 11, U 12, U 13, U 14, U 15, U 16, U 17, U 18, U 19, U 20, U 21, U 22, U 23, U 24, U 25, U 26, U 27, U 28, U 29, U 30, U 31, U 32, U 33, U 34, U 35, U 36, U 37], []⟩) rfl, HS.out, HB.out⟩
    · rintro a' w' ⟨hU, hrow, hb⟩
      obtain ⟨U, rfl⟩ := hU.out
      have hd : List.replicate (L + 3) beU ++ (List.replicate (L + 3) (0 : UInt64)).drop (L + 3) = fillU W 0 := by rw [fillU_zero, ← HL.out, List.drop_of_length_le (by simp), List.append_nil]
      rw [hd] at hrow
      have HROW := Lib.hid hrow
      have HB := Lib.hid hb
      clear hm hU hrow hb hd
      go_wp2_with fail
      refine wp_loop_count (fun i a' w' => Is (fun U => ⟨#[.slice (some a) L c, U 1, U 2, .slice (some ⟨w.heap.size, 0, none⟩) (L + 3) (L + 3), U 4, .int .i64 i, U 6, U 7, U 8, U 9, U 10, U 11, U 12, U 13, U 14, U 15, U 16, U 17, U 18, U 19, U 20, U 21, U 22, U 23, U 24, U 25, U 26, U 27, U 28, U 29, U 30, U 31, U 32, U 33, U 34, U 35, U 36, U 37], []⟩) a' ∧ Rw w' w.heap.size 58 ((fillU W i).map uv) ∧ Below w.heap.size w w') L ⟨isU (fun U => ⟨#[.slice (some a) L c, U 1, U 2, .slice (some ⟨w.heap.size, 0, none⟩) (L + 3) (L + 3), U 4, .int .i64 0, U 6, U 7, U 8, U 9, U 10, U 11, U 12, U 13, U 14, U 15, U 16, U 17, U 18, U 19, U 20, U 21, U 22, U 23, U 24, U 25, U 26, U 27, U 28, U 29, U 30, U 31, U 32, U 33, U 34, U 35, U 36, U 37], []⟩) rfl, HROW.out, HB.out⟩ ?_ ?_
      · rintro i a' w' hi ⟨hU, hrow, hb⟩
        obtain ⟨U, rfl⟩ := hU.out
        obtain ⟨x, hx⟩ : ∃ x, W[i]? = some x := ⟨_, List.getElem?_eq_getElem (by rw [← HL.out]; exact hi)⟩
        obtain ⟨p', c', e', _, _, _, hr⟩ := HR.out
        simp only [Value.slice.injEq] at e'
        obtain ⟨rfl, -, -⟩ := e'
        obtain ⟨g, o, e, hg, hcell⟩ := hr _ _ hx
        injection e with e
        subst e
        have hcell' := ((bcell hb).1 g _ hg).trans hcell
        have hset := hrow.set i (uv x)
        rw [← List.map_set, fillU_next hx] at hset
        obtain ⟨z, hz⟩ : ∃ z, (fillU W i)[i]? = some z := ⟨_, List.getElem?_eq_getElem (by rw [fillU_length (by have := HL.out; omega)]; have := HL.out; omega)⟩
        have hc0 : w'.cell? ⟨w.heap.size, i, none⟩ = some (uv z) := hrow.cell (by rw [List.getElem?_map, hz]; rfl)
        have hf0 := hrow.frozen i
        have hbe : Below w.heap.size w (w'.setCell ⟨w.heap.size, i, none⟩ (uv x)) := hb.setCell (p := ⟨w.heap.size, i, none⟩) (Nat.le_refl _) _
        have HS := Lib.hid hset
        have HB := Lib.hid hbe
        have hi' : (i : Int) < (L : Int) := by exact_mod_cast hi
        have hi3 : (i : Int) < (L : Int) + 3 := by omega
        have hi0 : (0 : Int) ≤ (i : Int) := Int.natCast_nonneg i
        clear hU hrow hset hb hbe hr hx hz hcell
        go_wp2_with fail
        exact ⟨isU (fun U => ⟨#[.slice (some ⟨g, o, none⟩) L c, U 1, U 2, .slice (some ⟨w.heap.size, 0, none⟩) (L + 3) (L + 3), U 4, .int .i64 (i + 1 : Nat), U 6, U 7, U 8, U 9, U 10, U 11, U 12, U 13, U 14, U 15, U 16, U 17, U 18, U 19, U 20, U 21, U 22, U 23, U 24, U 25, U 26, U 27, U 28, U 29, U 30, U 31, U 32, U 33, U 34, U 35, U 36, U 37], []⟩) rfl, HS.out, HB.out⟩
      · rintro a' w' ⟨hU, hrow, hb⟩
        obtain ⟨U, rfl⟩ := hU.out
        have HROW := Lib.hid hrow
        have HB := Lib.hid hb
        clear hU hrow hb
        go_wp2_with fail
        go_ret
        refine ⟨.slice (some ⟨w.heap.size, 0, none⟩) L (L + 3), rfl, .inr ⟨a, c, w.heap.size, ?_, ?_, Nat.le_refl _, ?_⟩, HB.out⟩
        · rw [HL.out]
        · rw [HL.out]
        · have := HROW.out
          rwa [HL.out, fillU_all] at this
set_option maxHeartbeats 4000000 in
theorem sameWords_calls {w : World} {va vb : Value} {l : List UInt64} (h : RU w va l) (h' : RU w vb l) : Pur Tryd.prog 22 #[va, vb] w (.bool true) := by
  unfold Pur
  obtain ⟨p, c, rfl, h1, h2, h3, hr⟩ := h
  obtain ⟨p', c', rfl, h1', h2', h3', hr'⟩ := h'
  go_enter Tryd.func22, Tryd.ntmps22
  go_wp2_with fail
  refine wp_loop_count (fun i a w' => (∃ U : Nat → Value, a = ⟨#[.slice p l.length c, .slice p' l.length c', U 2, U 3, .bool false, .int .i64 i, U 6, U 7, U 8, U 9, U 10, U 11, U 12, U 13, U 14, U 15, U 16, U 17, U 18, U 19, U 20, U 21, U 22, U 23, U 24, U 25], []⟩) ∧ Below w.heap.size w w') l.length ⟨exU (fun U => ⟨#[.slice p l.length c, .slice p' l.length c', U 2, U 3, .bool false, .int .i64 0, U 6, U 7, U 8, U 9, U 10, U 11, U 12, U 13, U 14, U 15, U 16, U 17, U 18, U 19, U 20, U 21, U 22, U 23, U 24, U 25], []⟩) rfl, Below.refl _ _⟩ ?_ ?_
  · rintro i a w' hi ⟨⟨U, rfl⟩, hb⟩
    obtain ⟨b, hlb⟩ : ∃ b, l[i]? = some b := ⟨l[i], List.getElem?_eq_getElem hi⟩
    obtain ⟨g, o, rfl, hg, hcell⟩ := hr i b hlb
    obtain ⟨g', o', rfl, hg', hcell'⟩ := hr' i b hlb
    have hgw : g < w'.heap.size := Nat.lt_of_lt_of_le hg hb.size
    have hgw' : g' < w'.heap.size := Nat.lt_of_lt_of_le hg' hb.size
    replace hcell := ((bcell hb).1 g (o + i) hg).trans hcell
    replace hcell' := ((bcell hb).1 g' (o' + i) hg').trans hcell'
    have hi' : (i : Int) < (l.length : Int) := by exact_mod_cast hi
    have hi0 : (0 : Int) ≤ (i : Int) := Int.natCast_nonneg i
    clear hr hr' hlb
    go_wp2_with fail
    refine wp_region_here (by kernel_rfl) (by kernel_rfl) ?_
    (repeat (first | (apply wpR_pass rfl; (try simp only [Act.put, List.setIfInBounds_toArray, List.set_cons_succ, List.set_cons_zero])) | (apply wpR_val rfl; (focus (intro w1 hR; obtain ⟨hc, hf⟩ := bcellB hR; (try go_simp); (try exact Eq.refl _); done)); (try simp only [Act.put, List.setIfInBounds_toArray, List.set_cons_succ, List.set_cons_zero])) | (apply wpR_call rfl; (focus (intro w1 hR; obtain ⟨hc, hf⟩ := bcellB hR; (try go_simp); (try exact And.intro rfl rfl); done)); (focus (intro w1 hR; first | exact ().at_ (by first | omega | (simp; done) | (simp; omega)) hR)); (try simp only [Act.put, List.setIfInBounds_toArray, List.set_cons_succ, List.set_cons_zero])) | (apply wpR_val_want rfl; (focus (intro w1 hR; obtain ⟨hc, hf⟩ := bcellB hR; (try go_simp); (try exact Eq.refl _); done)); (try simp only [Act.put, List.setIfInBounds_toArray, List.set_cons_succ, List.set_cons_zero])) | (apply wpR_call_want rfl; (focus (intro w1 hR; obtain ⟨hc, hf⟩ := bcellB hR; (try go_simp); (try exact And.intro rfl rfl); done)); (focus (intro w1 hR; first | exact ().at_ (by first | omega | (simp; done) | (simp; omega)) hR)); (try simp only [Act.put, List.setIfInBounds_toArray, List.set_cons_succ, List.set_cons_zero]))))
    refine wpR_nil (fun w2 hb2 => ?_)
    go_wp2_with fail
    exact ⟨exU (fun U => ⟨#[.slice (some ⟨g, o, none⟩) l.length c, .slice (some ⟨g', o', none⟩) l.length c', U 2, U 3, .bool false, .int .i64 (i + 1 : Nat), U 6, U 7, U 8, U 9, U 10, U 11, U 12, U 13, U 14, U 15, U 16, U 17, U 18, U 19, U 20, U 21, U 22, U 23, U 24, U 25], []⟩) rfl, hb.trans (hb2.mono hb.size)⟩
  · rintro a w' ⟨⟨U, rfl⟩, hb⟩
    go_wp2_with fail
    go_ret
    exact ⟨rfl, hb⟩
theorem Cop.ru {B : Nat} {w : World} {v v' : Value} {W : List UInt64} (h : Cop B w v v' W) (hl : W.length + 3 ≤ 17592186044416) : RU w v' W := (h.ou hl).ru
set_option maxHeartbeats 4000000 in
theorem intact_calls {w : World} {B : Nat} {va vi : Value} {W : List UInt64} (hc : Cop B w va vi W) (h : RU w va W) (hl : W.length + 3 ≤ 17592186044416) : Pur Tryd.prog 25 #[vi, va] w (.bool true) := by
  unfold Pur
  have hs := sameWords_calls (hc.ru hl) h
  have HL := Lib.hid hl
  rcases hc with ⟨c, rfl, rfl, rfl⟩ | ⟨a, c, g, rfl, rfl, h3, h4⟩
  · clear hl
    go_enter Tryd.func25, Tryd.ntmps25
    go_wp2_with (first | (go_at_call 22; refine hs.out.mono ?_; rintro e w1 ⟨rfl, hb1⟩) | fail)
    go_ret
    exact ⟨rfl, hb1⟩
  · have H4 := Lib.hid h4
    have lg := heap_lt h4
    obtain ⟨L, hL⟩ : ∃ L, L = W.length := ⟨_, rfl⟩
    have HLL := Lib.hid hL
    rw [← hL] at hl hs ⊢
    have hl2 : (L : Int) + 3 ≤ 17592186044416 := by omega
    have hl0 : (0 : Int) ≤ (L : Int) := Int.natCast_nonneg L
    clear hL h4 h
    go_enter Tryd.func25, Tryd.ntmps25
    go_wp2_with (first | (go_at_call 22; refine hs.out.mono ?_; rintro e w1 ⟨rfl, hb1⟩) | fail)
    have FRM : True := trivial
    refine wp_loop_count (fun j a' w' => (∃ U : Nat → Value, a' = ⟨#[.slice (some ⟨g, 0, none⟩) L (L + 3), .slice (some a) L c, U 2, U 3, .bool false, .bool true, .slice (some ⟨g, 0, none⟩) (L + 3) (L + 3), .int .i64 ((L + j : Nat) : Int), U 8, U 9, U 10, U 11, U 12, U 13, U 14, U 15, U 16, U 17, U 18, U 19, U 20, U 21, U 22, U 23, U 24, U 25, U 26, U 27, U 28, U 29, U 30, U 31, U 32, U 33, U 34, U 35], []⟩) ∧ Below w.heap.size w w') 3 ⟨exU (fun U => ⟨#[.slice (some ⟨g, 0, none⟩) L (L + 3), .slice (some a) L c, U 2, U 3, .bool false, .bool true, .slice (some ⟨g, 0, none⟩) (L + 3) (L + 3), .int .i64 ((L + 0 : Nat) : Int), U 8, U 9, U 10, U 11, U 12, U 13, U 14, U 15, U 16, U 17, U 18, U 19, U 20, U 21, U 22, U 23, U 24, U 25, U 26, U 27, U 28, U 29, U 30, U 31, U 32, U 33, U 34, U 35], []⟩) rfl, hb1⟩ ?_ ?_
    · rintro j a' w' hj ⟨⟨U, rfl⟩, hb⟩
      have hcell : w'.cell? ⟨g, L + j, none⟩ = some (uv beU) := ((bcell hb).1 g (L + j) lg).trans (H4.out.cell (by
        rw [List.getElem?_map, List.getElem?_append_right (by have := HLL.out; omega), ← HLL.out, Nat.add_sub_cancel_left]
        match j, hj with
        | 0, _ => rfl
        | 1, _ => rfl
        | 2, _ => rfl))
      obtain ⟨k, hk⟩ : ∃ k, k = L + j := ⟨_, rfl⟩
      rw [← hk] at hcell ⊢
      have hk1 : (k : Int) < (L : Int) + 3 := by omega
      have hk0 : (0 : Int) ≤ (k : Int) := Int.natCast_nonneg k
      have HK : Hid (((L + (j + 1) : Nat) : Int) = (k : Int) + 1) := Lib.hid (by omega)
      have hcell2 : w'.cell? ⟨g, k, none⟩ = some (.int .u64 13835058055282163719) := hcell
      clear hk hj hb1 hcell
      go_wp2_with fail
      refine ⟨?_, hb⟩
      rw [HK.out]
      exact exU (fun U => ⟨#[.slice (some ⟨g, 0, none⟩) L (L + 3), .slice (some a) L c, U 2, U 3, .bool false, .bool true, .slice (some ⟨g, 0, none⟩) (L + 3) (L + 3), .int .i64 ((k : Int) + 1), U 8, U 9, U 10, U 11, U 12, U 13, U 14, U 15, U 16, U 17, U 18, U 19, U 20, U 21, U 22, U 23, U 24, U 25, U 26, U 27, U 28, U 29, U 30, U 31, U 32, U 33, U 34, U 35], []⟩) rfl
    · rintro a' w' ⟨⟨U, rfl⟩, hb⟩
      clear hb1
      obtain ⟨k, hk⟩ : ∃ k, k = L + 3 := ⟨_, rfl⟩
      rw [← hk]
      clear hs hl hl2
      go_wp2_with fail
      go_ret
      exact ⟨rfl, hb⟩
end Go.Proofs.YtckbckdaffdjmaaDoor
