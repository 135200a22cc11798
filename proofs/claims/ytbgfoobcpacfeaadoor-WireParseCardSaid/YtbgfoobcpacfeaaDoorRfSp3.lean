/- The document's own reading: numbers of a field, inside, has. -/
import Derived.Test.YtbgfoobcpacfeaaDoorPk8
import Derived.Test.YtbgfoobcpacfeaaDoorRfSp2
namespace Go.Proofs.YtbgfoobcpacfeaaDoor
open Go.RowKit
set_option maxRecDepth 100000
set_option linter.unusedVariables false
set_option linter.unusedSimpArgs false

theorem RGv.out_of {w w0 w' : World} {l : List (Int × Int)} {e : Ending} (hb : Below w.heap.size w w0) (h : RGv w0 l e w') : RGv w l e w' := by
  obtain ⟨v, he, hs, hg, hb'⟩ := h
  exact ⟨v, he, hs, fun g e => Nat.le_trans hb.size (hg g e), hb.trans (hb'.mono hb.size)⟩
theorem rcounts_enter : Og.Enters Tryd.prog 105 := fun args w => by kernel_rfl

set_option maxHeartbeats 8000000 in
theorem rnumbers_calls {w : World} {pv : Value} {p : Wi.Pk} (c f : Int) (hp : p.Ok) : Calls Tryd.prog 84 #[.int .i64 c, .int .i64 f, .agg (pkL p pv).toArray] w (RGv w (Wi.rNumbers c f p)) := by
  have hk : PkAt (w.alloc (.cells (pkL p pv).toArray 34)) w.heap.size p pv := heap_new w _ _ rfl
  have hb1 := below_alloc1 w (.cells (pkL p pv).toArray 34)
  have hs1 : (w.alloc (.cells (pkL p pv).toArray 34)).heap.size = w.heap.size + 1 := by simp
  have hb2 := below_alloc1 (w.alloc (.cells (pkL p pv).toArray 34)) (.cells #[.int .i64 0, .int .i64 4294967295] 164)
  have hk2 := hk.below hb2
  have hb02 := hb1.trans (hb2.mono hb1.size)
  have hs2 : ((w.alloc (.cells (pkL p pv).toArray 34)).alloc (.cells #[.int .i64 0, .int .i64 4294967295] 164)).heap.size = w.heap.size + 2 := by simp
  generalize hca : (pkL p pv).toArray = ca at *
  have hall : ∀ e, e = Ending.returned (.slice (some ⟨w.heap.size + 1, 0, none⟩) 1 1) → RGv w [(0, Wi.Most)] e ((w.alloc (.cells ca 34)).alloc (.cells #[.int .i64 0, .int .i64 4294967295] 164)) := fun e he => by
    subst he
    exact rgv_at hb1 hs1 _ [(0, Wi.Most)] 1 rfl rfl (Nat.le_of_ble_eq_true rfl)
  by_cases h1 : f = 1
  · subst h1
    by_cases hc1 : c = 1
    · subst hc1
      go_enter Tryd.func84, Tryd.ntmps84
      go_wp2_with fail
      go_ret
      exact hall _ rfl
    · have : Wi.rNumbers c 1 p = [(1, 2147483647)] := by unfold Wi.rNumbers; rw [if_pos rfl, if_neg hc1]
      rw [this]
      go_enter Tryd.func84, Tryd.ntmps84
      go_wp2_with fail
      go_ret
      exact rgv_at hb02 hs2 _ [(1, 2147483647)] 1 rfl rfl (Nat.le_of_ble_eq_true rfl)
  · by_cases h2 : f = 2
    · subst h2
      by_cases hc4 : c = 4
      · subst hc4
        go_enter Tryd.func84, Tryd.ntmps84
        go_wp2_with fail
        go_ret
        exact rgv_at hb02 hs2 _ [(1, 4096)] 1 rfl rfl (Nat.le_of_ble_eq_true rfl)
      · by_cases hc7 : c = 7
        · subst hc7
          go_enter Tryd.func84, Tryd.ntmps84
          go_wp2_with fail
          go_ret
          exact rgv_at hb02 hs2 _ [(0, 63)] 1 rfl rfl (Nat.le_of_ble_eq_true rfl)
        · have : Wi.rNumbers c 2 p = [(0, 4095)] := by unfold Wi.rNumbers; rw [if_neg (by decide), if_pos rfl, if_neg hc4, if_neg hc7]
          rw [this]
          go_enter Tryd.func84, Tryd.ntmps84
          go_wp2_with fail
          go_ret
          exact rgv_at hb02 hs2 _ [(0, 4095)] 1 rfl rfl (Nat.le_of_ble_eq_true rfl)
    · by_cases h4 : f = 4
      · subst h4
        go_enter Tryd.func84, Tryd.ntmps84
        go_wp2_with fail
        go_ret
        exact rgv_at hb02 hs2 _ [(1, Wi.Most)] 1 rfl rfl (Nat.le_of_ble_eq_true rfl)
      · by_cases h8 : f = 8
        · subst h8
          have hrn : Wi.rNumbers c 8 p = Wi.rCounts c p := rfl
          rw [hrn]
          go_enter Tryd.func84, Tryd.ntmps84
          go_upto_region 16 with fail
          rename_i hnext
          show Code.wp _ _ _ _ ((w.alloc (.cells ca 34)).alloc (.cells #[.int .i64 0, .int .i64 4294967295] 164))
          generalize (w.alloc (.cells ca 34)).alloc (.cells #[.int .i64 0, .int .i64 4294967295] 164) = w2 at *
          refine wp_region_lit ?_
          refine Og.st_start (n := 44) rfl fun a hF => ?_
          refine Og.st_same (.int .i64 c) hF rfl rfl (by decide) (by kernel_rfl) ?_
          clear hF a; intro a hF
          refine Og.st_same (.agg (pkL p pv).toArray) hF rfl rfl (by decide) (Og.exec_load rfl (load_pk hk2 hp)) ?_
          clear hF a; intro a hF
          refine Og.st_call (f := 105) (args := #[.int .i64 c, .agg (pkL p pv).toArray]) hF rfl rfl (by decide) ((Og.exec_call rfl rcounts_enter rfl _).trans (by kernel_rfl)) ((rcounts_calls c hp).mono ?_)
          intro e w3 hres
          obtain ⟨v, rfl, hv⟩ := hres.out_of hb02
          refine ⟨_, rfl, ?_⟩
          clear hF a; intro a hF
          refine Og.st_same v hF rfl rfl (by decide) (by kernel_rfl) ?_
          clear hF a; intro a hF
          refine wpList_nil ?_
          refine hnext _ _ (wp_ret ?_)
          (try simp only [Exit.inBlock, Exit.then])
          refine bodyPost_ret (v := v) ?_ hF.1 ?_
          · exact (results_tmp rfl _ _ _).trans (by rw [hF.2.2 6]; rfl)
          · exact ⟨v, rfl, hv⟩
        · by_cases h16 : f = 16
          · subst h16
            have hrn : Wi.rNumbers c 16 p = Wi.rFlags c := rfl
            rw [hrn]
            go_enter Tryd.func84, Tryd.ntmps84
            go_wp2_with fail
            refine (rflags_calls _ c).mono ?_
            intro e w3 hres
            obtain ⟨v, rfl, hv⟩ := hres.out_of hb02
            go_wp2_with fail
            go_ret
            exact ⟨v, rfl, hv⟩
          · have hrn : Wi.rNumbers c f p = [(0, Wi.Most)] := by unfold Wi.rNumbers; rw [if_neg h1, if_neg h2, if_neg h4, if_neg h8, if_neg h16]
            rw [hrn]
            go_enter Tryd.func84, Tryd.ntmps84
            go_wp2_with fail
            go_ret
            exact hall _ rfl

/-- The loop of 'inside', behind i spans. -/
def InsI (l : List (Int × Int)) (x : Int) (g c : Nat) (w : World) (i : Nat) (a : Act) (w' : World) : Prop :=
  (∃ U : Nat → Value, a = ⟨#[.int .i64 x, .slice (some ⟨g, 0, none⟩) l.length c, U 2, U 3, .bool false, .int .i64 i, U 6, U 7, U 8, U 9, U 10, U 11, U 12, U 13, U 14, U 15, U 16, U 17, U 18, U 19, U 20, U 21, U 22, U 23, U 24, U 25, U 26, U 27], []⟩) ∧ (l.take i).any (fun s => decide (s.1 ≤ x) && decide (x ≤ s.2)) = false ∧ w' = w
set_option maxHeartbeats 8000000 in
theorem rinside_calls {w : World} {v : Value} {l : List (Int × Int)} (h : RSp w v l) (x : Int) : Pur Tryd.prog 83 #[.int .i64 x, v] w (.bool (Wi.rInside x l)) := by
  unfold Pur
  obtain ⟨g, c, rfl, ⟨cs, fz, hk⟩, h4, hc, hr⟩ := h
  have hg := heap_lt hk
  clear hk
  go_enter Tryd.func83, Tryd.ntmps83
  go_wp2_with fail
  refine wp_loop_count (InsI l x g c w) l.length ⟨exU (fun U => ⟨#[.int .i64 x, .slice (some ⟨g, 0, none⟩) l.length c, U 2, U 3, .bool false, .int .i64 0, U 6, U 7, U 8, U 9, U 10, U 11, U 12, U 13, U 14, U 15, U 16, U 17, U 18, U 19, U 20, U 21, U 22, U 23, U 24, U 25, U 26, U 27], []⟩) rfl, rfl, rfl⟩ ?_ ?_
  · rintro i a w' hi' ⟨⟨U, rfl⟩, hn, rfl⟩
    obtain ⟨s, hs⟩ : ∃ s, l[i]? = some s := ⟨l[i], List.getElem?_eq_getElem hi'⟩
    obtain ⟨c1, c2⟩ := hr i s hs
    have Hn := Lib.hid (any_take_next (fun s : Int × Int => decide (s.1 ≤ x) && decide (x ≤ s.2)) hs)
    have hil : (i : Int) < (l.length : Int) := by exact_mod_cast hi'
    have hi0 : (0 : Int) ≤ (i : Int) := Int.natCast_nonneg i
    have h4I : (i : Int) < 4 := by omega
    have wi1 : IntKind.i64.wrap ((i : Int) + 1) = (i : Int) + 1 := IntWalk.i64_in _ ⟨by omega, by omega⟩
    clear hr hs h4 hc hi'
    by_cases t1 : s.1 ≤ x
    · by_cases t2 : x ≤ s.2
      · go_wp2_with fail
        go_ret
        refine ⟨?_, Below.refl _ _⟩
        have : (l.any fun s => decide (s.1 ≤ x) && decide (x ≤ s.2)) = true := by
          have h6 := Hn.out
          rw [hn] at h6
          rw [← List.take_append_drop (i + 1) l, List.any_append, h6]
          simp [t1, t2]
        unfold Wi.rInside
        rw [this]
        rfl
      · go_wp2_with fail
        exact ⟨exU (fun U => ⟨#[.int .i64 x, .slice (some ⟨g, 0, none⟩) l.length c, U 2, U 3, .bool false, .int .i64 (i + 1 : Nat), U 6, U 7, U 8, U 9, U 10, U 11, U 12, U 13, U 14, U 15, U 16, U 17, U 18, U 19, U 20, U 21, U 22, U 23, U 24, U 25, U 26, U 27], []⟩) rfl, by rw [Hn.out, hn]; simp; omega, rfl⟩
    · go_wp2_with fail
      exact ⟨exU (fun U => ⟨#[.int .i64 x, .slice (some ⟨g, 0, none⟩) l.length c, U 2, U 3, .bool false, .int .i64 (i + 1 : Nat), U 6, U 7, U 8, U 9, U 10, U 11, U 12, U 13, U 14, U 15, U 16, U 17, U 18, U 19, U 20, U 21, U 22, U 23, U 24, U 25, U 26, U 27], []⟩) rfl, by rw [Hn.out, hn]; simp; omega, rfl⟩
  · rintro a w' ⟨⟨U, rfl⟩, hn, rfl⟩
    rw [List.take_length] at hn
    go_wp2_with fail
    go_ret
    unfold Wi.rInside
    exact ⟨by rw [hn]; rfl, Below.refl _ _⟩
end Go.Proofs.YtbgfoobcpacfeaaDoor
