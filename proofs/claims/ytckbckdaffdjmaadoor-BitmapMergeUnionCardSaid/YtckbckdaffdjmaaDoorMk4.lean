/- Walks and plain laws of the packets and frames, joined from: SetR, SetC, BmTst, BmTs2, BmMer, BmFnd, BmTz, BmNxt, BmNx2, BmNc, CntR, AskB. -/
import Derived.Test.YtckbckdaffdjmaaDoorMk3
import Derived.Shelf.Spec.TrailingZeros
import Derived.Deep.Cut
/- SetRange, ClearRange. -/
namespace Go.Proofs.YtckbckdaffdjmaaDoor
open Go.RowKit
attribute [local go_sem] Oper.semAt_some
set_option maxRecDepth 100000
set_option linter.unusedVariables false
set_option linter.unusedSimpArgs false

set_option maxHeartbeats 8000000 in
theorem setrange_err {w : World} {p bw ba n : Nat} {W : List UInt64} (h : BM w p bw ba n W) {first count : Int} (h1 : (Lit.int .i64 first).wf = true) (h2 : (Lit.int .i64 count).wf = true) (he : Bm.rangeE n first count ≠ 0) :
    Pur Tryd.prog 67 #[.pointer (some ⟨p, 0, none⟩), .int .i64 first, .int .i64 count] w (.tuple #[.int .i64 0, .int .i64 (Bm.rangeE n first count : Nat)]) := by
  unfold Pur
  have hb1 := below_alloc1 w (.cells #[.pointer (some ⟨p, 0, none⟩)] 32)
  have hf := fits_calls (h.below hb1) h1 h2
  obtain ⟨E, hE⟩ : ∃ E, E = Bm.rangeE n first count := ⟨_, rfl⟩
  rw [← hE] at he hf ⊢
  have he' : (((E : Nat) : Int) != 0) = true := bne_iff_ne.2 fun e => he (Int.ofNat_inj.1 e)
  have HF := Lib.hid hf
  have HB := Lib.hid hb1
  clear h h1 h2 hE he hb1 hf
  go_enter Tryd.func67, Tryd.ntmps67
  go_wp2_with (first | (go_at_call 74; refine HF.out.out.mono ?_; rintro e w1 ⟨rfl, hb2⟩) | fail)
  refine bodyPost_ret (results_tmp2 rfl _ _ _) rfl ?_
  exact ⟨rfl, HB.out.trans (hb2.mono HB.out.size)⟩
/-- What a range's call leaves at each place. -/
structure SetI (w W' : World) (p bw ba n : Nat) (V : List UInt64) (C f E Z : Nat) (to : Bool) (s : Nat) : Prop where
  bm : BM W' p bw ba n (Bm.setW n V f s to)
  box : Rw W' C 32 [.pointer (some ⟨p, 0, none⟩)]
  mod : Mod (BM.At p bw ba) w W'
  fs : f ≤ s
  sE : s ≤ E
  sz : Z ≤ W'.heap.size
theorem SetI.step {w X Y : World} {p bw ba n C f E Z s : Nat} {V : List UInt64} {to : Bool} {F : Nat → Prop} (h : SetI w X p bw ba n V C f E Z to s) (hm : Mod F X Y) (hF : ∀ k, F k → k ≠ C ∧ w.heap.size ≤ k ∧ ¬ BM.At p bw ba k) : SetI w Y p bw ba n V C f E Z to s :=
  ⟨h.bm.mod hm (fun e => (hF _ e).2.2 (.inl rfl)) (fun e => (hF _ e).2.2 (.inr (.inl rfl))) (fun e => (hF _ e).2.2 (.inr (.inr rfl))), h.box.mod hm (fun e => (hF _ e).1 rfl), h.mod.trans' (hm.mono fun k _ e => .inr (hF k e).2.1), h.fs, h.sE, Nat.le_trans h.sz hm.size⟩
theorem mod_putObj (w : World) (l : Nat) (o : Obj) : Mod (fun k => k = l) w (w.putObj l o) :=
  ⟨rfl, rfl, rfl, by simp, fun k _ hk => World.putObj_heap_other hk⟩
set_option maxHeartbeats 8000000 in
theorem setrange_calls {w : World} {p bw ba n : Nat} {V : List UInt64} (h : BM w p bw ba n V) {f c : Nat} (hfc : f + c ≤ n) :
    Calls Tryd.prog 67 #[.pointer (some ⟨p, 0, none⟩), .int .i64 f, .int .i64 c] w fun e w' => e = .returned (.tuple #[.int .i64 ((Bm.ones' (Bm.setW n V f (f + c) true) : Nat) - (Bm.ones' V : Nat) : Int), .int .i64 0]) ∧ BM w' p bw ba n (Bm.setW n V f (f + c) true) ∧ Mod (BM.At p bw ba) w w' := by
  have hmx := h.ok.max
  have hb1 := below_alloc1 w (.cells #[.pointer (some ⟨p, 0, none⟩)] 32)
  have hbox : Rw (w.alloc (.cells #[.pointer (some ⟨p, 0, none⟩)] 32)) w.heap.size 32 [.pointer (some ⟨p, 0, none⟩)] := heap_new _ _ _ rfl
  obtain ⟨w1, hw1⟩ : ∃ w1, w1 = w.alloc (.cells #[.pointer (some ⟨p, 0, none⟩)] 32) := ⟨_, rfl⟩
  obtain ⟨C, hC⟩ : ∃ C, C = w.heap.size := ⟨_, rfl⟩
  rw [← hw1] at hb1 hbox
  rw [← hC] at hbox
  have hf := fits_calls (h.below hb1) (first := f) (count := c) (wf_nat (by omega)) (wf_nat (by omega))
  rw [show Bm.rangeE n f c = 0 by unfold Bm.rangeE; rw [if_neg (by omega), if_neg (by omega)]] at hf
  have HF := Lib.hid hf
  have HB1 := Lib.hid hb1
  have HBOX := Lib.hid hbox
  have HH := Lib.hid h
  have HFC := Lib.hid hfc
  have cC := hbox.cell (i := 0) rfl
  have hf0 : (0 : Int) ≤ (f : Int) := Int.natCast_nonneg f
  have hc0 : (0 : Int) ≤ (c : Int) := Int.natCast_nonneg c
  have hf1 : (f : Int) ≤ 65536 := by omega
  have hc1 : (c : Int) ≤ 65536 := by omega
  clear h hb1 hbox hf hfc hmx
  (refine callsIn_wide (n := 0).1 (callsIn_of_wp_marks Tryd.func67 rfl trivial (wpIn_wide.2 ?_) rfl); simp only [Tryd.ntmps67, List.size_toArray, List.length_cons, List.length_nil, Nat.reduceAdd, Nat.reduceSub, Array.replicate_succ, Array.replicate_zero, List.push_toArray, List.append_toArray, List.nil_append, List.cons_append])
  go_upto_region 1 with fail
  rw [← hw1, ← hC]
  have HC := Lib.hid hC
  clear hw1 hC
  go_upto_region 5 with (first | (go_at_call 74; refine HF.out.out.mono ?_; rintro e w2 ⟨rfl, hb2⟩; have cC2 := (HBOX.out.below hb2).cell (i := 0) rfl; have cp2 := ((HH.out.below HB1.out).below hb2).hs.cell (i := 3) rfl; have HB2 := Lib.hid hb2; clear hb2) | fail)
  go_wp2_with (first | (go_at_call 75; refine masks_calls.mono ?_; rintro e w3 ⟨A, B, rfl, hAB, hA, hB, hra, hrb, hb3⟩) | fail)
  have hw23 : w2.heap.size ≤ w3.heap.size := hb3.size
  have HAL := Lib.hid (And.intro (heap_lt hra) (heap_lt hrb))
  have hn3 : ∀ l, w2.heap.size ≤ l → l ≠ C ∧ w.heap.size ≤ l ∧ ¬ BM.At p bw ba l := fun l hl => by
    have h1 := heap_lt HH.out.hs
    have h2 := heap_lt HH.out.hw
    have h3 := heap_lt HH.out.ha
    have h4 := HB1.out.size
    have h5 := HB2.out.size
    have h6 := heap_lt HBOX.out
    exact ⟨by omega, by omega, by rintro (e | e | e) <;> omega⟩
  have HN3 := Lib.hid hn3
  have H3 : Hid (SetI w w3 p bw ba n V C f (f + c) w3.heap.size true f) := Lib.hid ⟨by rw [Bm.setW_start HH.out.ok]; exact ((HH.out.below HB1.out).below HB2.out).below hb3, (HBOX.out.below HB2.out).below hb3, ((Mod.of_below HB1.out).onB HB2.out).onB hb3, Nat.le_refl _, by omega, Nat.le_refl _⟩
  clear hn3
  refine wp_range (a₁ := ?fr) (s0 := f) (hg := rfl) (eg := fun args w => by kernel_rfl) (hc := masks_iter (E := f + c) hra (by simpa using hrb) hAB (by have := HFC.out; have := HH.out.ok.max; omega)) (hps := fun _ => rfl) (hT := fun _ _ h => h.2)
    (hKt := fun h k => ⟨k.1.trans h.1, k.2.trans h.2⟩) (hKb := fun X l o o' hl ho hc => ⟨World.putObj_heap_other ?_, World.putObj_heap_other ?_⟩) (I := fun s W' => SetI w W' p bw ba n V C f (f + c) w3.heap.size true s) (Ix := fun _ _ => False) ?hIT ?hIxT ?hI ?hIx ?h0 ?hIv (hassign := ?assign) (hbody := ?body) (hdone := ?done) (hstop := ?stop)
  case assign =>
    intro l x X K hK
    simp only [Mk.enc]
    gi_wp2
    exact hK
  case body =>
    rintro l s x X hI ⟨hs, rfl⟩
    have hok := HH.out.ok
    have hfc := HFC.out
    have hrl := hI.bm.room_le.1
    have hk : s / 64 < Bm.room n := Bm.stop_room hs hfc
    have hlen : (Bm.setW n V f s true).length = Bm.room n := hI.bm.ok.len
    obtain ⟨y, hy⟩ : ∃ y, (Bm.setW n V f s true)[s / 64]? = some y := ⟨_, List.getElem?_eq_getElem (by omega)⟩
    have hlay := fun w4 (hb4 : Below X.heap.size X w4) => lay_calls (hI.bm.below hb4) (k := s / 64) (by omega) (UInt64.ofNat (Bm.pieceN (f + c) s true y.toNat)) (Bm.setW_ok_set hok hI.fs hs hfc hy)
    rw [Bm.setW_next hok hI.fs hs hfc hy] at hlay
    have hor : bits .or .u64 (y.toNat : Int) ((Bm.maskN (f + c) s : Nat) : Int) = (((UInt64.ofNat (Bm.pieceN (f + c) s true y.toNat)).toNat : Nat) : Int) := by
      rw [u64_or_nat _ _ y.toNat_lt (Bm.maskN_lt hs), Bm.toNat_of (Bm.piece_lt y.toNat_lt hs)]; rfl
    have lC := heap_lt hI.box
    have lp := heap_lt hI.bm.hs
    have lw := heap_lt hI.bm.hw
    have cC := hI.box.cell (i := 0) rfl
    have c1 := hI.bm.hs.cell (i := 1) rfl
    have cw := hI.bm.hw.cell (i := s / 64) (v := uv y) (by simp [hy])
    have hk1 : (((s / 64 : Nat) : Nat) : Int) < ((Bm.room n : Nat) : Int) := by exact_mod_cast hk
    have hk0 : (0 : Int) ≤ ((s / 64 : Nat) : Int) := Int.natCast_nonneg _
    have HI := Lib.hid hI
    have HS := Lib.hid hs
    have HLAY := Lib.hid hlay
    obtain ⟨k, hkk⟩ : ∃ k, k = s / 64 := ⟨_, rfl⟩
    obtain ⟨m, hmm⟩ : ∃ m, m = Bm.maskN (f + c) s := ⟨_, rfl⟩
    rw [← hkk] at hk1 hk0 cw HLAY ⊢
    rw [← hmm] at hor ⊢
    clear hok hfc hrl hk hlen hy hlay hI hs hkk hmm cC2 cp2 hra hrb hb3
    gi_wp2_with fail
    refine wpIn_region_R_tail (Below X.heap.size X) 11 (by kernel_rfl) (by kernel_rfl) (by kernel_rfl) (fun ⟨_, _, h⟩ => h) (Below.drew (Below.refl _ _)) ?_
    (repeat (first | (apply wpR_pass rfl; (try simp only [Act.put, List.setIfInBounds_toArray, List.set_cons_succ, List.set_cons_zero])) | (apply wpR_val rfl; (focus (intro w1 hR; obtain ⟨hc, hf⟩ := bcellB hR; (try go_simp); (try exact Eq.refl _); done)); (try simp only [Act.put, List.setIfInBounds_toArray, List.set_cons_succ, List.set_cons_zero])) | (apply wpR_call rfl; (focus (intro w1 hR; obtain ⟨hc, hf⟩ := bcellB hR; (try go_simp); (try exact And.intro rfl rfl); done)); (focus (intro w1 hR; first | exact ().at_ (by first | omega | (simp; done) | (simp; omega)) hR)); (try simp only [Act.put, List.setIfInBounds_toArray, List.set_cons_succ, List.set_cons_zero])) | (apply wpR_val_want rfl; (focus (intro w1 hR; obtain ⟨hc, hf⟩ := bcellB hR; (try go_simp); (try exact Eq.refl _); done)); (try simp only [Act.put, List.setIfInBounds_toArray, List.set_cons_succ, List.set_cons_zero])) | (apply wpR_call_want rfl; (focus (intro w1 hR; obtain ⟨hc, hf⟩ := bcellB hR; (try go_simp); (try exact And.intro rfl rfl); done)); (focus (intro w1 hR; first | exact ().at_ (by first | omega | (simp; done) | (simp; omega)) hR)); (try simp only [Act.put, List.setIfInBounds_toArray, List.set_cons_succ, List.set_cons_zero]))))
    refine wpR_nil ?_
    intro w4 hb4
    have HB4 := Lib.hid hb4
    clear hb4 hor cw c1 cC
    go_wp2_with (first | (go_at_call 69; refine (HLAY.out w4 HB4.out).mono ?_; rintro e w5 ⟨rfl, hm5, hmd⟩) | fail)
    have hat : ∀ j, BM.At p bw ba j → ∃ c t z, X.heap[j]? = some (.cells c t z) := by
      rintro j (rfl | rfl | rfl)
      · exact ⟨_, _, _, HI.out.bm.hs⟩
      · exact ⟨_, _, _, HI.out.bm.hw⟩
      · exact ⟨_, _, _, HI.out.bm.ha⟩
    have hmX : Mod (BM.At p bw ba) X w5 := (Mod.of_below HB4.out).trans hmd
    have hnA := (HN3.out A hA).2.2
    have hnB := (HN3.out B hB).2.2
    have hnC : ¬ BM.At p bw ba C := by
      have h1 := heap_lt HH.out.hs
      have h2 := heap_lt HH.out.hw
      have h3 := heap_lt HH.out.ha
      have h4 := HC.out
      rintro (e | e | e) <;> omega
    have hAl := HAL.out
    have hsz := HI.out.sz
    exact ⟨KeepsOthers.of_mod hmX hat, ⟨hmX.block A (by omega) hnA, hmX.block B (by omega) hnB⟩, _, rfl,
      ⟨hm5, HI.out.box.mod hmX hnC, HI.out.mod.trans hmX, Nat.le_trans HI.out.fs (Nat.le_of_lt (Bm.stop_gt HS.out)), Bm.stop_le.1, Nat.le_trans hsz hmX.size⟩⟩
  case hIT =>
    rintro s X Y h ht
    exact h.step ht.1 fun k e => by subst e; exact HN3.out _ hA
  case hIxT => exact fun _ _ _ h _ => h
  case hI =>
    intro s X l o o' h hl ho hc
    exact h.step (mod_putObj _ _ _) fun k e => by subst e; exact HN3.out _ (Nat.le_trans hw23 hl)
  case hIx => exact fun _ _ _ _ _ h _ _ _ => h
  case h0 =>
    intro W1 hb
    exact H3.out.step (F := fun _ => False) (Mod.of_below hb) fun _ e => e.elim
  case hIv => exact fun _ _ _ => trivial
  case done =>
    intro D s X hD hI hfin hdef
    have hse : s = f + c := by have := hI.sE; omega
    subst hse
    have cC := hI.box.cell (i := 0) rfl
    have c3 := hI.bm.hs.cell (i := 3) rfl
    have hb1 := Bm.ones_le V
    have hb2 := Bm.ones_le (Bm.setW n V f (f + c) true)
    rw [HH.out.ok.len] at hb1
    rw [hI.bm.ok.len] at hb2
    have hr := hI.bm.room_le.1
    have hx1 : ((Bm.ones' V : Nat) : Int) ≤ 65536 := by omega
    have hx2 : ((Bm.ones' (Bm.setW n V f (f + c) true) : Nat) : Int) ≤ 65536 := by omega
    have hx3 : (0 : Int) ≤ ((Bm.ones' V : Nat) : Int) := Int.natCast_nonneg _
    have hx4 : (0 : Int) ≤ ((Bm.ones' (Bm.setW n V f (f + c) true) : Nat) : Int) := Int.natCast_nonneg _
    have HI := Lib.hid hI
    have HD := Lib.hid hdef
    generalize hz1 : Bm.ones' V = z1 at *
    generalize hz2 : Bm.ones' (Bm.setW n V f (f + c) true) = z2 at *
    have HZ1 := Lib.hid hz1
    have HZ2 := Lib.hid hz2
    clear hI hdef hb1 hb2 hr hfin cC2 cp2 hra hrb hb3 hz1 hz2
    go_wp2_with fail
    refine ⟨by simp, .inl ⟨_, _, rfl, run_takeDeferred HD.out, ?_⟩⟩
    have hf : SetI w (X.putObj D (.deferred none)) p bw ba n V C f (f + c) w3.heap.size true (f + c) := HI.out.step (mod_putObj _ _ _) fun k e => by subst e; exact HN3.out _ (Nat.le_trans hw23 hD)
    refine ⟨_, results_tmp2 rfl _ _ _, ?_, hf.bm, hf.mod⟩
    rw [HZ2.out, HZ1.out]
    rfl
  case stop => exact fun _ _ _ _ h _ => h.elim
  all_goals (intro e; have := HAL.out; omega)
end Go.Proofs.YtckbckdaffdjmaaDoor

/- ClearRange (turned from SetRange's text by a small program). -/
namespace Go.Proofs.YtckbckdaffdjmaaDoor
open Go.RowKit
attribute [local go_sem] Oper.semAt_some
set_option maxRecDepth 100000
set_option linter.unusedVariables false
set_option linter.unusedSimpArgs false

set_option maxHeartbeats 8000000 in
theorem clearrange_err {w : World} {p bw ba n : Nat} {W : List UInt64} (h : BM w p bw ba n W) {first count : Int} (h1 : (Lit.int .i64 first).wf = true) (h2 : (Lit.int .i64 count).wf = true) (he : Bm.rangeE n first count ≠ 0) :
    Pur Tryd.prog 68 #[.pointer (some ⟨p, 0, none⟩), .int .i64 first, .int .i64 count] w (.tuple #[.int .i64 0, .int .i64 (Bm.rangeE n first count : Nat)]) := by
  unfold Pur
  have hb1 := below_alloc1 w (.cells #[.pointer (some ⟨p, 0, none⟩)] 32)
  have hf := fits_calls (h.below hb1) h1 h2
  obtain ⟨E, hE⟩ : ∃ E, E = Bm.rangeE n first count := ⟨_, rfl⟩
  rw [← hE] at he hf ⊢
  have he' : (((E : Nat) : Int) != 0) = true := bne_iff_ne.2 fun e => he (Int.ofNat_inj.1 e)
  have HF := Lib.hid hf
  have HB := Lib.hid hb1
  clear h h1 h2 hE he hb1 hf
  go_enter Tryd.func68, Tryd.ntmps68
  go_wp2_with (first | (go_at_call 74; refine HF.out.out.mono ?_; rintro e w1 ⟨rfl, hb2⟩) | fail)
  refine bodyPost_ret (results_tmp2 rfl _ _ _) rfl ?_
  exact ⟨rfl, HB.out.trans (hb2.mono HB.out.size)⟩
set_option maxHeartbeats 8000000 in
theorem clearrange_calls {w : World} {p bw ba n : Nat} {V : List UInt64} (h : BM w p bw ba n V) {f c : Nat} (hfc : f + c ≤ n) :
    Calls Tryd.prog 68 #[.pointer (some ⟨p, 0, none⟩), .int .i64 f, .int .i64 c] w fun e w' => e = .returned (.tuple #[.int .i64 ((Bm.ones' V : Nat) - (Bm.ones' (Bm.setW n V f (f + c) false) : Nat) : Int), .int .i64 0]) ∧ BM w' p bw ba n (Bm.setW n V f (f + c) false) ∧ Mod (BM.At p bw ba) w w' := by
  have hmx := h.ok.max
  have hb1 := below_alloc1 w (.cells #[.pointer (some ⟨p, 0, none⟩)] 32)
  have hbox : Rw (w.alloc (.cells #[.pointer (some ⟨p, 0, none⟩)] 32)) w.heap.size 32 [.pointer (some ⟨p, 0, none⟩)] := heap_new _ _ _ rfl
  obtain ⟨w1, hw1⟩ : ∃ w1, w1 = w.alloc (.cells #[.pointer (some ⟨p, 0, none⟩)] 32) := ⟨_, rfl⟩
  obtain ⟨C, hC⟩ : ∃ C, C = w.heap.size := ⟨_, rfl⟩
  rw [← hw1] at hb1 hbox
  rw [← hC] at hbox
  have hf := fits_calls (h.below hb1) (first := f) (count := c) (wf_nat (by omega)) (wf_nat (by omega))
  rw [show Bm.rangeE n f c = 0 by unfold Bm.rangeE; rw [if_neg (by omega), if_neg (by omega)]] at hf
  have HF := Lib.hid hf
  have HB1 := Lib.hid hb1
  have HBOX := Lib.hid hbox
  have HH := Lib.hid h
  have HFC := Lib.hid hfc
  have cC := hbox.cell (i := 0) rfl
  have hf0 : (0 : Int) ≤ (f : Int) := Int.natCast_nonneg f
  have hc0 : (0 : Int) ≤ (c : Int) := Int.natCast_nonneg c
  have hf1 : (f : Int) ≤ 65536 := by omega
  have hc1 : (c : Int) ≤ 65536 := by omega
  clear h hb1 hbox hf hfc hmx
  (refine callsIn_wide (n := 0).1 (callsIn_of_wp_marks Tryd.func68 rfl trivial (wpIn_wide.2 ?_) rfl); simp only [Tryd.ntmps68, List.size_toArray, List.length_cons, List.length_nil, Nat.reduceAdd, Nat.reduceSub, Array.replicate_succ, Array.replicate_zero, List.push_toArray, List.append_toArray, List.nil_append, List.cons_append])
  go_upto_region 1 with fail
  rw [← hw1, ← hC]
  have HC := Lib.hid hC
  clear hw1 hC
  go_upto_region 5 with (first | (go_at_call 74; refine HF.out.out.mono ?_; rintro e w2 ⟨rfl, hb2⟩; have cC2 := (HBOX.out.below hb2).cell (i := 0) rfl; have cp2 := ((HH.out.below HB1.out).below hb2).hs.cell (i := 3) rfl; have HB2 := Lib.hid hb2; clear hb2) | fail)
  go_wp2_with (first | (go_at_call 75; refine masks_calls.mono ?_; rintro e w3 ⟨A, B, rfl, hAB, hA, hB, hra, hrb, hb3⟩) | fail)
  have hw23 : w2.heap.size ≤ w3.heap.size := hb3.size
  have HAL := Lib.hid (And.intro (heap_lt hra) (heap_lt hrb))
  have hn3 : ∀ l, w2.heap.size ≤ l → l ≠ C ∧ w.heap.size ≤ l ∧ ¬ BM.At p bw ba l := fun l hl => by
    have h1 := heap_lt HH.out.hs
    have h2 := heap_lt HH.out.hw
    have h3 := heap_lt HH.out.ha
    have h4 := HB1.out.size
    have h5 := HB2.out.size
    have h6 := heap_lt HBOX.out
    exact ⟨by omega, by omega, by rintro (e | e | e) <;> omega⟩
  have HN3 := Lib.hid hn3
  have H3 : Hid (SetI w w3 p bw ba n V C f (f + c) w3.heap.size false f) := Lib.hid ⟨by rw [Bm.setW_start HH.out.ok]; exact ((HH.out.below HB1.out).below HB2.out).below hb3, (HBOX.out.below HB2.out).below hb3, ((Mod.of_below HB1.out).onB HB2.out).onB hb3, Nat.le_refl _, by omega, Nat.le_refl _⟩
  clear hn3
  refine wp_range (a₁ := ?fr) (s0 := f) (hg := rfl) (eg := fun args w => by kernel_rfl) (hc := masks_iter (E := f + c) hra (by simpa using hrb) hAB (by have := HFC.out; have := HH.out.ok.max; omega)) (hps := fun _ => rfl) (hT := fun _ _ h => h.2)
    (hKt := fun h k => ⟨k.1.trans h.1, k.2.trans h.2⟩) (hKb := fun X l o o' hl ho hc => ⟨World.putObj_heap_other ?_, World.putObj_heap_other ?_⟩) (I := fun s W' => SetI w W' p bw ba n V C f (f + c) w3.heap.size false s) (Ix := fun _ _ => False) ?hIT ?hIxT ?hI ?hIx ?h0 ?hIv (hassign := ?assign) (hbody := ?body) (hdone := ?done) (hstop := ?stop)
  case assign =>
    intro l x X K hK
    simp only [Mk.enc]
    gi_wp2
    exact hK
  case body =>
    rintro l s x X hI ⟨hs, rfl⟩
    have hok := HH.out.ok
    have hfc := HFC.out
    have hrl := hI.bm.room_le.1
    have hk : s / 64 < Bm.room n := Bm.stop_room hs hfc
    have hlen : (Bm.setW n V f s false).length = Bm.room n := hI.bm.ok.len
    obtain ⟨y, hy⟩ : ∃ y, (Bm.setW n V f s false)[s / 64]? = some y := ⟨_, List.getElem?_eq_getElem (by omega)⟩
    have hlay := fun w4 (hb4 : Below X.heap.size X w4) => lay_calls (hI.bm.below hb4) (k := s / 64) (by omega) (UInt64.ofNat (Bm.pieceN (f + c) s false y.toNat)) (Bm.setW_ok_set hok hI.fs hs hfc hy)
    rw [Bm.setW_next hok hI.fs hs hfc hy] at hlay
    have hor : bits .andNot .u64 (y.toNat : Int) ((Bm.maskN (f + c) s : Nat) : Int) = (((UInt64.ofNat (Bm.pieceN (f + c) s false y.toNat)).toNat : Nat) : Int) := by
      rw [u64_andNot_nat _ _ y.toNat_lt (Bm.maskN_lt hs), Bm.toNat_of (Bm.piece_lt y.toNat_lt hs)]; rfl
    have lC := heap_lt hI.box
    have lp := heap_lt hI.bm.hs
    have lw := heap_lt hI.bm.hw
    have cC := hI.box.cell (i := 0) rfl
    have c1 := hI.bm.hs.cell (i := 1) rfl
    have cw := hI.bm.hw.cell (i := s / 64) (v := uv y) (by simp [hy])
    have hk1 : (((s / 64 : Nat) : Nat) : Int) < ((Bm.room n : Nat) : Int) := by exact_mod_cast hk
    have hk0 : (0 : Int) ≤ ((s / 64 : Nat) : Int) := Int.natCast_nonneg _
    have HI := Lib.hid hI
    have HS := Lib.hid hs
    have HLAY := Lib.hid hlay
    obtain ⟨k, hkk⟩ : ∃ k, k = s / 64 := ⟨_, rfl⟩
    obtain ⟨m, hmm⟩ : ∃ m, m = Bm.maskN (f + c) s := ⟨_, rfl⟩
    rw [← hkk] at hk1 hk0 cw HLAY ⊢
    rw [← hmm] at hor ⊢
    clear hok hfc hrl hk hlen hy hlay hI hs hkk hmm cC2 cp2 hra hrb hb3
    gi_wp2_with fail
    refine wpIn_region_R_tail (Below X.heap.size X) 11 (by kernel_rfl) (by kernel_rfl) (by kernel_rfl) (fun ⟨_, _, h⟩ => h) (Below.drew (Below.refl _ _)) ?_
    (repeat (first | (apply wpR_pass rfl; (try simp only [Act.put, List.setIfInBounds_toArray, List.set_cons_succ, List.set_cons_zero])) | (apply wpR_val rfl; (focus (intro w1 hR; obtain ⟨hc, hf⟩ := bcellB hR; (try go_simp); (try exact Eq.refl _); done)); (try simp only [Act.put, List.setIfInBounds_toArray, List.set_cons_succ, List.set_cons_zero])) | (apply wpR_call rfl; (focus (intro w1 hR; obtain ⟨hc, hf⟩ := bcellB hR; (try go_simp); (try exact And.intro rfl rfl); done)); (focus (intro w1 hR; first | exact ().at_ (by first | omega | (simp; done) | (simp; omega)) hR)); (try simp only [Act.put, List.setIfInBounds_toArray, List.set_cons_succ, List.set_cons_zero])) | (apply wpR_val_want rfl; (focus (intro w1 hR; obtain ⟨hc, hf⟩ := bcellB hR; (try go_simp); (try exact Eq.refl _); done)); (try simp only [Act.put, List.setIfInBounds_toArray, List.set_cons_succ, List.set_cons_zero])) | (apply wpR_call_want rfl; (focus (intro w1 hR; obtain ⟨hc, hf⟩ := bcellB hR; (try go_simp); (try exact And.intro rfl rfl); done)); (focus (intro w1 hR; first | exact ().at_ (by first | omega | (simp; done) | (simp; omega)) hR)); (try simp only [Act.put, List.setIfInBounds_toArray, List.set_cons_succ, List.set_cons_zero]))))
    refine wpR_nil ?_
    intro w4 hb4
    have HB4 := Lib.hid hb4
    clear hb4 hor cw c1 cC
    go_wp2_with (first | (go_at_call 69; refine (HLAY.out w4 HB4.out).mono ?_; rintro e w5 ⟨rfl, hm5, hmd⟩) | fail)
    have hat : ∀ j, BM.At p bw ba j → ∃ c t z, X.heap[j]? = some (.cells c t z) := by
      rintro j (rfl | rfl | rfl)
      · exact ⟨_, _, _, HI.out.bm.hs⟩
      · exact ⟨_, _, _, HI.out.bm.hw⟩
      · exact ⟨_, _, _, HI.out.bm.ha⟩
    have hmX : Mod (BM.At p bw ba) X w5 := (Mod.of_below HB4.out).trans hmd
    have hnA := (HN3.out A hA).2.2
    have hnB := (HN3.out B hB).2.2
    have hnC : ¬ BM.At p bw ba C := by
      have h1 := heap_lt HH.out.hs
      have h2 := heap_lt HH.out.hw
      have h3 := heap_lt HH.out.ha
      have h4 := HC.out
      rintro (e | e | e) <;> omega
    have hAl := HAL.out
    have hsz := HI.out.sz
    exact ⟨KeepsOthers.of_mod hmX hat, ⟨hmX.block A (by omega) hnA, hmX.block B (by omega) hnB⟩, _, rfl,
      ⟨hm5, HI.out.box.mod hmX hnC, HI.out.mod.trans hmX, Nat.le_trans HI.out.fs (Nat.le_of_lt (Bm.stop_gt HS.out)), Bm.stop_le.1, Nat.le_trans hsz hmX.size⟩⟩
  case hIT =>
    rintro s X Y h ht
    exact h.step ht.1 fun k e => by subst e; exact HN3.out _ hA
  case hIxT => exact fun _ _ _ h _ => h
  case hI =>
    intro s X l o o' h hl ho hc
    exact h.step (mod_putObj _ _ _) fun k e => by subst e; exact HN3.out _ (Nat.le_trans hw23 hl)
  case hIx => exact fun _ _ _ _ _ h _ _ _ => h
  case h0 =>
    intro W1 hb
    exact H3.out.step (F := fun _ => False) (Mod.of_below hb) fun _ e => e.elim
  case hIv => exact fun _ _ _ => trivial
  case done =>
    intro D s X hD hI hfin hdef
    have hse : s = f + c := by have := hI.sE; omega
    subst hse
    have cC := hI.box.cell (i := 0) rfl
    have c3 := hI.bm.hs.cell (i := 3) rfl
    have hb1 := Bm.ones_le V
    have hb2 := Bm.ones_le (Bm.setW n V f (f + c) false)
    rw [HH.out.ok.len] at hb1
    rw [hI.bm.ok.len] at hb2
    have hr := hI.bm.room_le.1
    have hx1 : ((Bm.ones' V : Nat) : Int) ≤ 65536 := by omega
    have hx2 : ((Bm.ones' (Bm.setW n V f (f + c) false) : Nat) : Int) ≤ 65536 := by omega
    have hx3 : (0 : Int) ≤ ((Bm.ones' V : Nat) : Int) := Int.natCast_nonneg _
    have hx4 : (0 : Int) ≤ ((Bm.ones' (Bm.setW n V f (f + c) false) : Nat) : Int) := Int.natCast_nonneg _
    have HI := Lib.hid hI
    have HD := Lib.hid hdef
    generalize hz1 : Bm.ones' V = z1 at *
    generalize hz2 : Bm.ones' (Bm.setW n V f (f + c) false) = z2 at *
    have HZ1 := Lib.hid hz1
    have HZ2 := Lib.hid hz2
    clear hI hdef hb1 hb2 hr hfin cC2 cp2 hra hrb hb3 hz1 hz2
    go_wp2_with fail
    refine ⟨by simp, .inl ⟨_, _, rfl, run_takeDeferred HD.out, ?_⟩⟩
    have hf : SetI w (X.putObj D (.deferred none)) p bw ba n V C f (f + c) w3.heap.size false (f + c) := HI.out.step (mod_putObj _ _ _) fun k e => by subst e; exact HN3.out _ (Nat.le_trans hw23 hD)
    refine ⟨_, results_tmp2 rfl _ _ _, ?_, hf.bm, hf.mod⟩
    rw [HZ2.out, HZ1.out]
    rfl
  case stop => exact fun _ _ _ _ h _ => h.elim
  all_goals (intro e; have := HAL.out; omega)
end Go.Proofs.YtckbckdaffdjmaaDoor

/- Test, Set, Clear: the program's and the document's. -/
namespace Go.Proofs.YtckbckdaffdjmaaDoor
open Go.RowKit
set_option maxRecDepth 100000
set_option linter.unusedVariables false
set_option linter.unusedSimpArgs false

namespace Bm
theorem mask_one (i : Nat) : maskN (i + 1) i = 2 ^ (i % 64) := by
  have : stopN (i + 1) i - i = 1 := by unfold stopN; omega
  rw [maskN, this]; omega
theorem stop_one (i : Nat) : stopN (i + 1) i = i + 1 := by unfold stopN; omega
theorem setW_one {n : Nat} {W : List UInt64} {i : Nat} {to : Bool} (h : Ok n W) (hi : i < n) {x : UInt64} (hx : W[i / 64]? = some x) :
    W.set (i / 64) (UInt64.ofNat (if to = true then on x.toNat (i % 64) else off x.toNat (i % 64))) = setW n W i (i + 1) to := by
  have h1 := setW_next (f := i) (s := i) (E := i + 1) (to := to) h (Nat.le_refl _) (by omega) (by omega) (x := x) (by rw [setW_start h]; exact hx)
  rw [setW_start h, stop_one] at h1
  rw [← h1]
  unfold pieceN on off
  rw [mask_one]
theorem putB_succ {bs : List Bool} {f s : Nat} {to : Bool} (hf : f ≤ s) (hs : s < bs.length) : (putB bs f s to).set s to = putB bs f (s + 1) to := by
  refine getD_ext (by rw [List.length_set, putB_length, putB_length]) fun i => ?_
  rw [putB_getD, List.getD_eq_getElem?_getD]
  by_cases e : s = i
  · subst e
    rw [List.getElem?_set_self (by rw [putB_length]; exact hs), if_pos hs, if_pos (by omega)]; rfl
  · rw [List.getElem?_set_ne e, ← List.getD_eq_getElem?_getD, putB_getD]
    by_cases h1 : i < bs.length
    · rw [if_pos h1, if_pos h1]
      by_cases h2 : f ≤ i ∧ i < s
      · rw [if_pos h2, if_pos (by omega)]
      · rw [if_neg h2, if_neg (by omega)]
    · rw [if_neg h1, if_neg h1]
end Bm
section
variable {w : World} {p bw ba n : Nat} {W : List UInt64} {r bb : Nat} {bs : List Bool}
set_option maxHeartbeats 4000000 in
theorem test_err (h : BM w p bw ba n W) {i : Int} (hi : i < 0 ∨ (n : Int) ≤ i) : Pur Tryd.prog 29 #[.pointer (some ⟨p, 0, none⟩), .int .i64 i] w (.tuple #[.bool false, .int .i64 2]) := by
  unfold Pur
  have c0 := h.hs.cell (i := 0) rfl
  clear h
  go_enter Tryd.func29, Tryd.ntmps29
  by_cases e : i < 0
  · clear hi
    go_wp2_with fail
    refine bodyPost_ret (results_tmp2 rfl _ _ _) rfl ?_
    exact ⟨rfl, Below.refl _ _⟩
  · have hi' : (n : Int) ≤ i := by omega
    clear hi
    go_wp2_with fail
    refine bodyPost_ret (results_tmp2 rfl _ _ _) rfl ?_
    exact ⟨rfl, Below.refl _ _⟩
set_option maxHeartbeats 4000000 in
theorem test_calls (h : BM w p bw ba n W) {i : Nat} (hi : i < n) : Pur Tryd.prog 29 #[.pointer (some ⟨p, 0, none⟩), .int .i64 i] w (.tuple #[.bool (Bm.bit W i), .int .i64 0]) := by
  unfold Pur
  have hmx := h.ok.max
  have hk := Bm.room_lt hi
  have hlen := h.ok.len
  have hrl := h.room_le.1
  obtain ⟨x, hx⟩ : ∃ x, W[i / 64]? = some x := ⟨_, List.getElem?_eq_getElem (by omega)⟩
  have hbit : Bm.bit W i = x.toNat.testBit (i % 64) := by rw [Bm.bit, List.getD_eq_getElem?_getD, hx]; rfl
  have hbv := shr_bit (r := i % 64) x.toNat_lt
  rw [← hbit] at hbv
  have c0 := h.hs.cell (i := 0) rfl
  have c1 := h.hs.cell (i := 1) rfl
  have cw := h.hw.cell (i := i / 64) (v := uv x) (by simp [hx])
  have hi' : (i : Int) < (n : Int) := by exact_mod_cast hi
  have hi0 : (0 : Int) ≤ (i : Int) := Int.natCast_nonneg i
  have hq0 : 0 ≤ (i : Int) / 64 := by omega
  have hq1 : (i : Int) / 64 < ((Bm.room n : Nat) : Int) := by omega
  have hq2 : ((i : Int) / 64).toNat = i / 64 := by omega
  generalize Bm.bit W i = z at *
  clear h hx hbit hlen hk hi hrl
  go_enter Tryd.func29, Tryd.ntmps29
  go_wp2_with fail
  refine bodyPost_ret (results_tmp2 rfl _ _ _) rfl ?_
  exact ⟨rfl, Below.refl _ _⟩
set_option maxHeartbeats 4000000 in
theorem rtest_err (h : RM w r bb bs) {i : Int} (hi : i < 0 ∨ (bs.length : Int) ≤ i) : Pur Tryd.prog 58 #[.pointer (some ⟨r, 0, none⟩), .int .i64 i] w (.tuple #[.bool false, .int .i64 2]) := by
  unfold Pur
  have c0 := h.hs.cell (i := 0) rfl
  clear h
  go_enter Tryd.func58, Tryd.ntmps58
  by_cases e : i < 0
  · clear hi
    go_wp2_with fail
    refine bodyPost_ret (results_tmp2 rfl _ _ _) rfl ?_
    exact ⟨rfl, Below.refl _ _⟩
  · have hi' : (bs.length : Int) ≤ i := by omega
    clear hi
    go_wp2_with fail
    refine bodyPost_ret (results_tmp2 rfl _ _ _) rfl ?_
    exact ⟨rfl, Below.refl _ _⟩
set_option maxHeartbeats 4000000 in
theorem rtest_calls (h : RM w r bb bs) {i : Nat} (hi : i < bs.length) : Pur Tryd.prog 58 #[.pointer (some ⟨r, 0, none⟩), .int .i64 i] w (.tuple #[.bool (bs.getD i false), .int .i64 0]) := by
  unfold Pur
  have c0 := h.hs.cell (i := 0) rfl
  have cb := h.hb.cell (i := i) (v := .bool (bs.getD i false)) (by rw [List.getElem?_map, List.getElem?_eq_getElem hi, List.getD_eq_getElem?_getD, List.getElem?_eq_getElem hi]; rfl)
  have hmx := h.max
  have hi' : (i : Int) < (bs.length : Int) := by exact_mod_cast hi
  have hi0 : (0 : Int) ≤ (i : Int) := Int.natCast_nonneg i
  generalize bs.getD i false = z at *
  clear h hi
  go_enter Tryd.func58, Tryd.ntmps58
  go_wp2_with fail
  refine bodyPost_ret (results_tmp2 rfl _ _ _) rfl ?_
  exact ⟨rfl, Below.refl _ _⟩
set_option maxHeartbeats 4000000 in
theorem rput_err (h : RM w r bb bs) {i : Int} (hi : i < 0 ∨ (bs.length : Int) ≤ i) (to : Bool) : Pur Tryd.prog 101 #[.pointer (some ⟨r, 0, none⟩), .int .i64 i, .bool to] w (.tuple #[.bool false, .int .i64 2]) := by
  unfold Pur
  have c0 := h.hs.cell (i := 0) rfl
  clear h
  go_enter Tryd.func101, Tryd.ntmps101
  by_cases e : i < 0
  · clear hi
    go_wp2_with fail
    refine bodyPost_ret (results_tmp2 rfl _ _ _) rfl ?_
    exact ⟨rfl, Below.refl _ _⟩
  · have hi' : (bs.length : Int) ≤ i := by omega
    clear hi
    go_wp2_with fail
    refine bodyPost_ret (results_tmp2 rfl _ _ _) rfl ?_
    exact ⟨rfl, Below.refl _ _⟩
theorem RM.set {w : World} {r bb : Nat} {bs : List Bool} (h : RM w r bb bs) (i : Nat) (to : Bool) : RM (w.setCell ⟨bb, i, none⟩ (.bool to)) r bb (bs.set i to) := by
  refine ⟨?_, ?_, h.ne, by rw [List.length_set]; exact h.max⟩
  · rw [List.length_set]; exact h.hs.other h.ne i _
  · rw [List.map_set]; exact h.hb.set i _
set_option maxHeartbeats 4000000 in
theorem rput_calls (h : RM w r bb bs) {i : Nat} (hi : i < bs.length) (to : Bool) : Calls Tryd.prog 101 #[.pointer (some ⟨r, 0, none⟩), .int .i64 i, .bool to] w fun e w' => e = .returned (.tuple #[.bool (bs.getD i false != to), .int .i64 0]) ∧ RM w' r bb (Bm.putB bs i (i + 1) to) ∧ Mod (fun k => k = bb) w w' := by
  have c0 := h.hs.cell (i := 0) rfl
  have cb := h.hb.cell (i := i) (v := .bool (bs.getD i false)) (by rw [List.getElem?_map, List.getElem?_eq_getElem hi, List.getD_eq_getElem?_getD, List.getElem?_eq_getElem hi]; rfl)
  have fb := h.hb.frozen i
  have hmx := h.max
  have hi' : (i : Int) < (bs.length : Int) := by exact_mod_cast hi
  have hi0 : (0 : Int) ≤ (i : Int) := Int.natCast_nonneg i
  have hset := h.set i to
  have hp := Bm.putB_succ (bs := bs) (f := i) (s := i) (to := to) (Nat.le_refl _) hi
  rw [Bm.putB_none] at hp
  rw [hp] at hset
  have HS := Lib.hid hset
  obtain ⟨z, hz⟩ : ∃ z, z = bs.getD i false := ⟨_, rfl⟩
  rw [← hz] at cb ⊢
  clear h hi hset hp hz
  go_enter Tryd.func101, Tryd.ntmps101
  go_wp2_with fail
  refine bodyPost_ret (results_tmp2 rfl _ _ _) rfl ?_
  exact ⟨rfl, HS.out, Mod.setCell _ _ _ _ rfl⟩
set_option maxHeartbeats 4000000 in
theorem set_err (h : BM w p bw ba n W) {i : Int} (hi : i < 0 ∨ (n : Int) ≤ i) : Pur Tryd.prog 28 #[.pointer (some ⟨p, 0, none⟩), .int .i64 i] w (.tuple #[.bool false, .int .i64 2]) := by
  unfold Pur
  have ht := test_err h hi
  clear h hi
  go_enter Tryd.func28, Tryd.ntmps28
  go_wp2_with (first | (go_at_call 29; refine ht.out.mono ?_; rintro e w1 ⟨rfl, hb⟩) | fail)
  refine bodyPost_ret (results_tmp2 rfl _ _ _) rfl ?_
  exact ⟨rfl, hb⟩
set_option maxHeartbeats 4000000 in
theorem clear_err (h : BM w p bw ba n W) {i : Int} (hi : i < 0 ∨ (n : Int) ≤ i) : Pur Tryd.prog 34 #[.pointer (some ⟨p, 0, none⟩), .int .i64 i] w (.tuple #[.bool false, .int .i64 2]) := by
  unfold Pur
  have ht := test_err h hi
  clear h hi
  go_enter Tryd.func34, Tryd.ntmps34
  go_wp2_with (first | (go_at_call 29; refine ht.out.mono ?_; rintro e w1 ⟨rfl, hb⟩) | fail)
  refine bodyPost_ret (results_tmp2 rfl _ _ _) rfl ?_
  exact ⟨rfl, hb⟩
set_option maxHeartbeats 4000000 in
theorem set_calls (h : BM w p bw ba n W) {i : Nat} (hi : i < n) : Calls Tryd.prog 28 #[.pointer (some ⟨p, 0, none⟩), .int .i64 i] w fun e w' => e = .returned (.tuple #[.bool (!Bm.bit W i), .int .i64 0]) ∧ BM w' p bw ba n (Bm.setW n W i (i + 1) true) ∧ Mod (BM.At p bw ba) w w' := by
  have ht := test_calls h hi
  have hmx := h.ok.max
  have hk := Bm.room_lt hi
  have hlen := h.ok.len
  have hrl := h.room_le.1
  obtain ⟨x, hx⟩ : ∃ x, W[i / 64]? = some x := ⟨_, List.getElem?_eq_getElem (by omega)⟩
  have hone := Bm.setW_one (to := true) h.ok hi hx
  rw [if_pos rfl] at hone
  have hor : bits .or .u64 (x.toNat : Int) (IntKind.u64.wrap ((2 : Int) ^ (i % 64))) = (((UInt64.ofNat (Bm.on x.toNat (i % 64))).toNat : Nat) : Int) := by
    rw [or_one x.toNat_lt (Nat.mod_lt _ (by decide)), Bm.toNat_of (Bm.on_lt x.toNat_lt (Nat.mod_lt _ (by decide)))]
  have hlay := fun w1 (hb : Below w.heap.size w w1) => lay_calls (h.below hb) (k := i / 64) (by omega) (UInt64.ofNat (Bm.on x.toNat (i % 64))) (by rw [hone]; exact Bm.setW_ok h.ok)
  rw [hone] at hlay
  have HT := Lib.hid ht
  have HL := Lib.hid hlay
  have HH := Lib.hid h
  have hi9 : (i : Int) < 65536 := by omega
  have hi0 : (0 : Int) ≤ (i : Int) := Int.natCast_nonneg i
  have hq0 : 0 ≤ (i : Int) / 64 := by omega
  have hq1 : (i : Int) / 64 < ((Bm.room n : Nat) : Int) := by omega
  have hq2 : ((i : Int) / 64).toNat = i / 64 := by omega
  have hq3 : ((i / 64 : Nat) : Int) = (i : Int) / 64 := by omega
  rw [hq3] at HL
  generalize Bm.bit W i = z at *
  generalize UInt64.ofNat (Bm.on x.toNat (i % 64)) = y at *
  have c1' := h.hw.cell (i := i / 64) (v := uv x) (by simp [hx])
  have HC := Lib.hid c1'
  clear ht hlay h hx hone hlen hk hi hmx hrl hq3 c1'
  go_enter Tryd.func28, Tryd.ntmps28
  go_wp2_with (first
    | (go_at_call 29; refine HT.out.out.mono ?_; rintro e w1 ⟨rfl, hb⟩
       have h1 := HH.out.below hb
       have c1 := h1.hs.cell (i := 1) rfl
       have cw : w1.cell? ⟨bw, i / 64, none⟩ = some (uv x) := ((bcell hb).1 _ _ (heap_lt HH.out.hw)).trans HC.out
       have HB := Lib.hid hb
       clear h1 hb)
    | (go_at_call 69; refine (HL.out w1 HB.out).mono ?_; rintro e w2 ⟨rfl, hm2, hmd⟩)
    | fail)
  refine bodyPost_ret (results_tmp2 rfl _ _ _) rfl ?_
  exact ⟨rfl, hm2, (Mod.of_below HB.out).trans hmd⟩
end
end Go.Proofs.YtckbckdaffdjmaaDoor

/- Clear; the document's PutRange and Find. -/
namespace Go.Proofs.YtckbckdaffdjmaaDoor
open Go.RowKit
set_option maxRecDepth 100000
set_option linter.unusedVariables false
set_option linter.unusedSimpArgs false

section
variable {w : World} {p bw ba n : Nat} {W : List UInt64} {r bb : Nat} {bs : List Bool}
set_option maxHeartbeats 4000000 in
theorem clear_calls (h : BM w p bw ba n W) {i : Nat} (hi : i < n) : Calls Tryd.prog 34 #[.pointer (some ⟨p, 0, none⟩), .int .i64 i] w fun e w' => e = .returned (.tuple #[.bool (Bm.bit W i), .int .i64 0]) ∧ BM w' p bw ba n (Bm.setW n W i (i + 1) false) ∧ Mod (BM.At p bw ba) w w' := by
  have ht := test_calls h hi
  have hmx := h.ok.max
  have hk := Bm.room_lt hi
  have hlen := h.ok.len
  have hrl := h.room_le.1
  obtain ⟨x, hx⟩ : ∃ x, W[i / 64]? = some x := ⟨_, List.getElem?_eq_getElem (by omega)⟩
  have hone := Bm.setW_one (to := false) h.ok hi hx
  rw [if_neg (by decide)] at hone
  have hor : bits .andNot .u64 (x.toNat : Int) (IntKind.u64.wrap ((2 : Int) ^ (i % 64))) = (((UInt64.ofNat (Bm.off x.toNat (i % 64))).toNat : Nat) : Int) := by
    rw [andNot_one x.toNat_lt (Nat.mod_lt _ (by decide)), Bm.toNat_of (Bm.off_lt (Nat.mod_lt _ (by decide)))]
  have hlay := fun w1 (hb : Below w.heap.size w w1) => lay_calls (h.below hb) (k := i / 64) (by omega) (UInt64.ofNat (Bm.off x.toNat (i % 64))) (by rw [hone]; exact Bm.setW_ok h.ok)
  rw [hone] at hlay
  have HT := Lib.hid ht
  have HL := Lib.hid hlay
  have HH := Lib.hid h
  have hi9 : (i : Int) < 65536 := by omega
  have hi0 : (0 : Int) ≤ (i : Int) := Int.natCast_nonneg i
  have hq0 : 0 ≤ (i : Int) / 64 := by omega
  have hq1 : (i : Int) / 64 < ((Bm.room n : Nat) : Int) := by omega
  have hq2 : ((i : Int) / 64).toNat = i / 64 := by omega
  have hq3 : ((i / 64 : Nat) : Int) = (i : Int) / 64 := by omega
  rw [hq3] at HL
  generalize Bm.bit W i = z at *
  generalize UInt64.ofNat (Bm.off x.toNat (i % 64)) = y at *
  have c1' := h.hw.cell (i := i / 64) (v := uv x) (by simp [hx])
  have HC := Lib.hid c1'
  clear ht hlay h hx hone hlen hk hi hmx hrl hq3 c1'
  go_enter Tryd.func34, Tryd.ntmps34
  go_wp2_with (first
    | (go_at_call 29; refine HT.out.out.mono ?_; rintro e w1 ⟨rfl, hb⟩
       have h1 := HH.out.below hb
       have c1 := h1.hs.cell (i := 1) rfl
       have cw : w1.cell? ⟨bw, i / 64, none⟩ = some (uv x) := ((bcell hb).1 _ _ (heap_lt HH.out.hw)).trans HC.out
       have HB := Lib.hid hb
       clear h1 hb)
    | (go_at_call 69; refine (HL.out w1 HB.out).mono ?_; rintro e w2 ⟨rfl, hm2, hmd⟩)
    | fail)
  refine bodyPost_ret (results_tmp2 rfl _ _ _) rfl ?_
  exact ⟨rfl, hm2, (Mod.of_below HB.out).trans hmd⟩
set_option maxHeartbeats 4000000 in
theorem rputrange_err (h : RM w r bb bs) {first count : Int} (h1 : (Lit.int .i64 first).wf = true) (h2 : (Lit.int .i64 count).wf = true) (he : Bm.rangeE bs.length first count ≠ 0) (to : Bool) :
    Pur Tryd.prog 102 #[.pointer (some ⟨r, 0, none⟩), .int .i64 first, .int .i64 count, .bool to] w (.tuple #[.int .i64 0, .int .i64 (Bm.rangeE bs.length first count : Nat)]) := by
  unfold Pur
  have hc := ranged_calls h h1 h2
  obtain ⟨E, hE⟩ : ∃ E, E = Bm.rangeE bs.length first count := ⟨_, rfl⟩
  rw [← hE] at he hc ⊢
  have he' : (((E : Nat) : Int) != 0) = true := bne_iff_ne.2 fun e => he (Int.ofNat_inj.1 e)
  clear h h1 h2 hE he
  go_enter Tryd.func102, Tryd.ntmps102
  go_wp2_with (first | (go_at_call 94; refine hc.out.mono ?_; rintro e w2 ⟨rfl, hb2⟩) | fail)
  refine bodyPost_ret (results_tmp2 rfl _ _ _) rfl ?_
  exact ⟨rfl, hb2⟩
set_option maxHeartbeats 8000000 in
theorem rputrange_calls (h : RM w r bb bs) {f c : Nat} (hfc : f + c ≤ bs.length) (to : Bool) : Calls Tryd.prog 102 #[.pointer (some ⟨r, 0, none⟩), .int .i64 f, .int .i64 c, .bool to] w
    fun e w' => e = .returned (.tuple #[.int .i64 (Bm.cnt (fun i => bs.getD i false != to) f c : Nat), .int .i64 0]) ∧ RM w' r bb (Bm.putB bs f (f + c) to) ∧ Mod (fun k => k = bb) w w' := by
  have hmx := h.max
  have hc := ranged_calls h (first := f) (count := c) (wf_nat (by omega)) (wf_nat (by omega))
  rw [show Bm.rangeE bs.length f c = 0 by unfold Bm.rangeE; rw [if_neg (by omega), if_neg (by omega)]] at hc
  obtain ⟨L, hL⟩ : ∃ L, L = bs.length := ⟨_, rfl⟩
  have HL := Lib.hid hL
  have HH := Lib.hid h
  rw [← hL] at hmx hfc
  clear h hL
  go_enter Tryd.func102, Tryd.ntmps102
  go_wp2_with (first | (go_at_call 94; refine hc.out.mono ?_; rintro e w2 ⟨rfl, hb2⟩) | fail)
  refine wp_loop_count (fun j a w' => Is (fun U => ⟨#[.pointer (some ⟨r, 0, none⟩), .int .i64 f, .int .i64 c, .bool to, U 4, U 5, U 6, U 7, U 8, U 9, U 10, .int .i64 (Bm.cnt (fun i => bs.getD i false != to) f j : Nat), .int .i64 (f + j : Nat), U 13, U 14, U 15, U 16, U 17, U 18, U 19, U 20, U 21, U 22, U 23, U 24, U 25, U 26, U 27, U 28, U 29, U 30, U 31, U 32, U 33, U 34, U 35, U 36, U 37, U 38, U 39, U 40, U 41, U 42, U 43, U 44, U 45, U 46], []⟩) a ∧ RM w' r bb (Bm.putB bs f (f + j) to) ∧ Mod (fun k => k = bb) w w') c ⟨isU (fun U => ⟨#[.pointer (some ⟨r, 0, none⟩), .int .i64 f, .int .i64 c, .bool to, U 4, U 5, U 6, U 7, U 8, U 9, U 10, .int .i64 0, .int .i64 f, U 13, U 14, U 15, U 16, U 17, U 18, U 19, U 20, U 21, U 22, U 23, U 24, U 25, U 26, U 27, U 28, U 29, U 30, U 31, U 32, U 33, U 34, U 35, U 36, U 37, U 38, U 39, U 40, U 41, U 42, U 43, U 44, U 45, U 46], []⟩) rfl, by rw [Nat.add_zero, Bm.putB_none]; exact HH.out.below hb2, Mod.of_below hb2⟩ ?_ ?_
  · rintro j a w' hj ⟨hU, hrm, hmd⟩
    obtain ⟨U, rfl⟩ := hU.out
    have hlt : f + j < bs.length := by rw [← HL.out]; omega
    obtain ⟨b, hb⟩ : ∃ b, b = bs.getD (f + j) false := ⟨_, rfl⟩
    have hpb : (Bm.putB bs f (f + j) to)[f + j]? = some b := by
      have h1 := Bm.putB_getD bs f (f + j) to (f + j)
      rw [if_pos hlt, if_neg (by omega), ← hb, List.getD_eq_getElem?_getD, List.getElem?_eq_getElem (by rw [Bm.putB_length]; exact hlt)] at h1
      rw [List.getElem?_eq_getElem (by rw [Bm.putB_length]; exact hlt)]
      exact congrArg some h1
    have hcb := hrm.hb.cell (i := f + j) (v := .bool b) (by simp [hpb])
    have hfb := hrm.hb.frozen (f + j)
    have hc0 := hrm.hs.cell (i := 0) rfl
    rw [Bm.putB_length, ← HL.out] at hc0
    have hset := hrm.set (f + j) to
    rw [Bm.putB_succ (by omega) hlt] at hset
    have hmd2 := hmd.trans (Mod.setCell (F := fun k => k = bb) w' bb (f + j) (.bool to) rfl)
    have hcn : Bm.cnt (fun i => bs.getD i false != to) f (j + 1) = Bm.cnt (fun i => bs.getD i false != to) f j + (if (b != to) = true then 1 else 0) := by
      rw [Bm.cnt, ← hb]
    have hcl := Bm.cnt_le (fun i => bs.getD i false != to) f j
    have HC := Lib.hid hcn
    have HS := Lib.hid hset
    have HM2 := Lib.hid hmd2
    clear hcn
    generalize Bm.cnt (fun i => bs.getD i false != to) f j = k at *
    obtain ⟨m, hm⟩ : ∃ m, m = f + j := ⟨_, rfl⟩
    have HM : Hid (f + (j + 1) = m + 1) := show _ = _ by omega
    have HMM := Lib.hid hm
    rw [← hm] at hcb hfb hlt HS HM2 ⊢
    have h1 : ((m : Nat) : Int) < (f : Int) + (c : Int) := by omega
    have h2 : ((m : Nat) : Int) < (L : Int) := by omega
    have h3 : (0 : Int) ≤ ((m : Nat) : Int) := by omega
    have h4 : (f : Int) + (c : Int) ≤ 65536 := by omega
    rw [HM.out, HC.out]
    clear hc hb hb2 hlt hm hU hrm hmd hset hmd2 hpb
    cases b <;> cases to
    all_goals
      first | rw [if_neg (by decide), Nat.add_zero] | rw [if_pos (by decide)]
      go_wp2_with fail
      first
        | exact ⟨isU (fun U => ⟨#[.pointer (some ⟨r, 0, none⟩), .int .i64 f, .int .i64 c, .bool false, U 4, U 5, U 6, U 7, U 8, U 9, U 10, .int .i64 k, .int .i64 (m + 1 : Nat), U 13, U 14, U 15, U 16, U 17, U 18, U 19, U 20, U 21, U 22, U 23, U 24, U 25, U 26, U 27, U 28, U 29, U 30, U 31, U 32, U 33, U 34, U 35, U 36, U 37, U 38, U 39, U 40, U 41, U 42, U 43, U 44, U 45, U 46], []⟩) rfl, HS.out, HM2.out⟩
        | exact ⟨isU (fun U => ⟨#[.pointer (some ⟨r, 0, none⟩), .int .i64 f, .int .i64 c, .bool true, U 4, U 5, U 6, U 7, U 8, U 9, U 10, .int .i64 k, .int .i64 (m + 1 : Nat), U 13, U 14, U 15, U 16, U 17, U 18, U 19, U 20, U 21, U 22, U 23, U 24, U 25, U 26, U 27, U 28, U 29, U 30, U 31, U 32, U 33, U 34, U 35, U 36, U 37, U 38, U 39, U 40, U 41, U 42, U 43, U 44, U 45, U 46], []⟩) rfl, HS.out, HM2.out⟩
        | exact ⟨isU (fun U => ⟨#[.pointer (some ⟨r, 0, none⟩), .int .i64 f, .int .i64 c, .bool false, U 4, U 5, U 6, U 7, U 8, U 9, U 10, .int .i64 (k + 1 : Nat), .int .i64 (m + 1 : Nat), U 13, U 14, U 15, U 16, U 17, U 18, U 19, U 20, U 21, U 22, U 23, U 24, U 25, U 26, U 27, U 28, U 29, U 30, U 31, U 32, U 33, U 34, U 35, U 36, U 37, U 38, U 39, U 40, U 41, U 42, U 43, U 44, U 45, U 46], []⟩) rfl, HS.out, HM2.out⟩
        | exact ⟨isU (fun U => ⟨#[.pointer (some ⟨r, 0, none⟩), .int .i64 f, .int .i64 c, .bool true, U 4, U 5, U 6, U 7, U 8, U 9, U 10, .int .i64 (k + 1 : Nat), .int .i64 (m + 1 : Nat), U 13, U 14, U 15, U 16, U 17, U 18, U 19, U 20, U 21, U 22, U 23, U 24, U 25, U 26, U 27, U 28, U 29, U 30, U 31, U 32, U 33, U 34, U 35, U 36, U 37, U 38, U 39, U 40, U 41, U 42, U 43, U 44, U 45, U 46], []⟩) rfl, HS.out, HM2.out⟩
  · rintro a w' ⟨hU, hrm, hmd⟩
    obtain ⟨U, rfl⟩ := hU.out
    clear hU hc hb2
    have h1 : (((f + c : Nat) : Int) < (f : Int) + (c : Int)) = False := by simp
    have HR := Lib.hid hrm
    have HM := Lib.hid hmd
    clear hrm hmd
    go_wp2_with fail
    refine bodyPost_ret (results_tmp2 rfl _ _ _) rfl ?_
    exact ⟨rfl, HR.out, HM.out⟩
end
end Go.Proofs.YtckbckdaffdjmaaDoor

/- Merge: the program's and the document's. -/
namespace Go.Proofs.YtckbckdaffdjmaaDoor
open Go.RowKit
set_option maxRecDepth 100000
set_option linter.unusedVariables false
set_option linter.unusedSimpArgs false

namespace Bm
/-- Behind i words. -/
def merTo (W V : List UInt64) (i : Nat) : List UInt64 := (List.range W.length).map fun k => if k < i then W.getD k 0 ||| V.getD k 0 else W.getD k 0
def mer (W V : List UInt64) : List UInt64 := merTo W V W.length
theorem merTo_length (W V : List UInt64) (i : Nat) : (merTo W V i).length = W.length := by simp [merTo]
theorem merTo_getD (W V : List UInt64) (i k : Nat) : (merTo W V i).getD k 0 = if k < i ∧ k < W.length then W.getD k 0 ||| V.getD k 0 else W.getD k 0 := by
  rw [List.getD_eq_getElem?_getD (l := merTo W V i)]
  by_cases h : k < W.length
  · have : (merTo W V i)[k]? = some (if k < i then W.getD k 0 ||| V.getD k 0 else W.getD k 0) := by simp [merTo, h]
    rw [this]
    by_cases h2 : k < i
    · simp [h, h2]
    · simp [h2]
  · rw [List.getElem?_eq_none (by rw [merTo_length]; omega), if_neg (by omega), List.getD_eq_getElem?_getD, List.getElem?_eq_none (by omega)]
theorem getD_extU {a b : List UInt64} (hl : a.length = b.length) (h : ∀ i, a.getD i 0 = b.getD i 0) : a = b := by
  refine List.ext_getElem hl fun i h1 h2 => ?_
  have := h i
  simpa [List.getD_eq_getElem?_getD, h1, h2] using this
theorem merTo_zero (W V : List UInt64) : merTo W V 0 = W := getD_extU (merTo_length _ _ _) fun k => by rw [merTo_getD, if_neg (by omega)]
theorem merTo_at {W V : List UInt64} {i : Nat} {x : UInt64} (hx : W[i]? = some x) : (merTo W V i)[i]? = some x := by
  have hi := (List.getElem?_eq_some_iff.1 hx).1
  simp [merTo, hi]
  rw [List.getElem?_eq_getElem hi] at hx
  exact Option.some.inj hx
theorem merTo_next {W V : List UInt64} {i : Nat} {x y : UInt64} (hx : W[i]? = some x) (hy : V[i]? = some y) : (merTo W V i).set i (x ||| y) = merTo W V (i + 1) := by
  have hi := (List.getElem?_eq_some_iff.1 hx).1
  refine getD_extU (by rw [List.length_set, merTo_length, merTo_length]) fun k => ?_
  rw [merTo_getD, List.getD_eq_getElem?_getD (l := (merTo W V i).set i (x ||| y))]
  by_cases e : i = k
  · subst e
    rw [List.getElem?_set_self (by rw [merTo_length]; exact hi), if_pos ⟨by omega, hi⟩, List.getD_eq_getElem?_getD, List.getD_eq_getElem?_getD, hx, hy]; rfl
  · rw [List.getElem?_set_ne e, ← List.getD_eq_getElem?_getD, merTo_getD]
    by_cases h2 : k < i ∧ k < W.length
    · rw [if_pos h2, if_pos (by omega)]
    · rw [if_neg h2, if_neg (by omega)]
section
variable {n : Nat} {W V : List UInt64}
theorem merTo_bit (i j : Nat) (hl : V.length = W.length) : bit (merTo W V i) j = (bit W j || (decide (j / 64 < i) && bit V j)) := by
  unfold bit
  rw [merTo_getD]
  by_cases h : j / 64 < i
  · by_cases h2 : j / 64 < W.length
    · rw [if_pos ⟨h, h2⟩, UInt64.toNat_or, Nat.testBit_or]; simp [h]
    · rw [if_neg (by omega), List.getD_eq_getElem?_getD, List.getElem?_eq_none (by omega), List.getD_eq_getElem?_getD (l := V), List.getElem?_eq_none (by omega)]
      simp
  · rw [if_neg (by omega)]; simp [h]
theorem merTo_ok (h : Ok n W) (h' : Ok n V) (i : Nat) : Ok n (merTo W V i) :=
  ⟨h.pos, h.max, by rw [merTo_length, h.len], fun j hj => by rw [merTo_bit i j (by rw [h.len, h'.len]), h.tail j hj, h'.tail j hj]; simp⟩
theorem mer_bit (h : Ok n W) (h' : Ok n V) (j : Nat) : bit (mer W V) j = (bit W j || bit V j) := by
  unfold mer
  rw [merTo_bit _ j (by rw [h.len, h'.len])]
  by_cases e : j / 64 < W.length
  · simp [e]
  · have : bit V j = false := h'.tail j (by rw [h.len] at e; unfold room at e; omega)
    rw [this]; simp
theorem mer_ok (h : Ok n W) (h' : Ok n V) : Ok n (mer W V) := merTo_ok h h' _
theorem cnt_or (f g : Nat → Bool) (a : Nat) : ∀ m, cnt (fun i => f i || g i) a m = cnt f a m + cnt (fun i => g i && !f i) a m
  | 0 => rfl
  | m + 1 => by
    rw [cnt, cnt, cnt, cnt_or f g a m]
    cases f (a + m) <;> cases g (a + m) <;> simp <;> omega
theorem ones_mer (h : Ok n W) (h' : Ok n V) : ones' (mer W V) = ones' W + cnt (fun i => bit V i && !bit W i) 0 n := by
  rw [ones_ok h, ones_ok (mer_ok h h'), ← cnt_or]
  exact cnt_congr n fun t _ => by rw [mer_bit h h']
end
/-- The document's: behind i bits. -/
def merB (bs vs : List Bool) (i : Nat) : List Bool := (List.range bs.length).map fun k => bs.getD k false || (decide (k < i) && vs.getD k false)
theorem merB_length (bs vs : List Bool) (i : Nat) : (merB bs vs i).length = bs.length := by simp [merB]
theorem merB_getD (bs vs : List Bool) (i k : Nat) : (merB bs vs i).getD k false = (bs.getD k false || (decide (k < i ∧ k < bs.length) && vs.getD k false)) := by
  rw [List.getD_eq_getElem?_getD (l := merB bs vs i)]
  by_cases h : k < bs.length
  · simp [merB, h]
  · rw [List.getElem?_eq_none (by rw [merB_length]; omega), List.getD_eq_getElem?_getD, List.getElem?_eq_none (by omega)]; simp [h]
theorem merB_zero (bs vs : List Bool) : merB bs vs 0 = bs := getD_ext (merB_length _ _ _) fun k => by rw [merB_getD]; simp
theorem merB_next {bs vs : List Bool} {i : Nat} (hi : i < bs.length) : (merB bs vs i).set i (bs.getD i false || vs.getD i false) = merB bs vs (i + 1) := by
  refine getD_ext (by rw [List.length_set, merB_length, merB_length]) fun k => ?_
  rw [merB_getD, List.getD_eq_getElem?_getD (l := (merB bs vs i).set i _)]
  by_cases e : i = k
  · subst e
    rw [List.getElem?_set_self (by rw [merB_length]; exact hi), decide_eq_true (by omega), Bool.true_and]; rfl
  · rw [List.getElem?_set_ne e, ← List.getD_eq_getElem?_getD, merB_getD]
    have : decide (k < i ∧ k < bs.length) = decide (k < i + 1 ∧ k < bs.length) := decide_eq_decide.2 ⟨fun _ => by omega, fun _ => by omega⟩
    rw [this]
theorem merB_same {bs vs : List Bool} {i : Nat} (hi : i < bs.length) (h : (vs.getD i false && !bs.getD i false) = false) : merB bs vs (i + 1) = merB bs vs i := by
  refine getD_ext (by rw [merB_length, merB_length]) fun k => ?_
  rw [merB_getD, merB_getD]
  by_cases e : i = k
  · subst e
    have e1 : decide (i < i + 1 ∧ i < bs.length) = true := decide_eq_true (by omega)
    have e2 : decide (i < i ∧ i < bs.length) = false := decide_eq_false (by omega)
    rw [e1, e2]
    revert h
    cases vs.getD i false <;> cases bs.getD i false <;> simp
  · have : decide (k < i + 1 ∧ k < bs.length) = decide (k < i ∧ k < bs.length) := decide_eq_decide.2 ⟨fun _ => by omega, fun _ => by omega⟩
    rw [this]
theorem merB_bools {n : Nat} {W V : List UInt64} (h : Ok n W) (h' : Ok n V) : merB (bools n W) (bools n V) n = bools n (mer W V) :=
  getD_ext (by rw [merB_length, bools_length, bools_length]) fun k => by
    rw [merB_getD, bools_getD, bools_getD, bools_getD, bools_length, mer_bit h h']
    by_cases e : k < n <;> simp [e]
end Bm
section
variable {w : World} {p bw ba n : Nat} {W : List UInt64} {r bb : Nat} {bs : List Bool}
set_option maxHeartbeats 4000000 in
theorem merge_err (h : BM w p bw ba n W) {v : Value} {V : List UInt64} (hv : RU w v V) (he : Bm.validE n V ≠ 0) : Pur Tryd.prog 43 #[.pointer (some ⟨p, 0, none⟩), v] w (.tuple #[.int .i64 0, .int .i64 (Bm.validE n V : Nat)]) := by
  unfold Pur
  have hc := valid_calls h.ok.pos h.ok.max hv
  have c0 := h.hs.cell (i := 0) rfl
  obtain ⟨E, hE⟩ : ∃ E, E = Bm.validE n V := ⟨_, rfl⟩
  rw [← hE] at he hc ⊢
  have he' : (((E : Nat) : Int) != 0) = true := bne_iff_ne.2 fun e => he (Int.ofNat_inj.1 e)
  clear h hv hE he
  go_enter Tryd.func43, Tryd.ntmps43
  go_wp2_with (first | (go_at_call 82; refine hc.out.mono ?_; rintro e w2 ⟨rfl, hb2⟩) | fail)
  refine bodyPost_ret (results_tmp2 rfl _ _ _) rfl ?_
  exact ⟨rfl, hb2⟩
set_option maxHeartbeats 8000000 in
theorem merge_calls (h : BM w p bw ba n W) {v : Value} {V : List UInt64} (hv : RU w v V) (hok : Bm.Ok n V) (hne : ∀ g, v.ownBlock = some g → ¬ BM.At p bw ba g) :
    Calls Tryd.prog 43 #[.pointer (some ⟨p, 0, none⟩), v] w fun e w' => e = .returned (.tuple #[.int .i64 ((Bm.ones' (Bm.mer W V) : Nat) - (Bm.ones' W : Nat) : Int), .int .i64 0]) ∧ BM w' p bw ba n (Bm.mer W V) ∧ Mod (BM.At p bw ba) w w' := by
  have hc := valid_calls h.ok.pos h.ok.max hv
  rw [Bm.valid_of_ok hok] at hc
  have c0 := h.hs.cell (i := 0) rfl
  have hlen := h.ok.len
  have hrl := h.room_le.1
  have HH := Lib.hid h
  have HV := Lib.hid hv
  have HOK := Lib.hid hok
  have HNE := Lib.hid hne
  obtain ⟨q, cp, hve⟩ := hv.form
  rw [hok.len] at hve
  have HLEN := Lib.hid hlen
  obtain ⟨R, hR⟩ : ∃ R, R = Bm.room n := ⟨_, rfl⟩
  have HR := Lib.hid hR
  rw [← hR] at hve hrl
  have hr9 : (R : Int) ≤ 1024 := by omega
  clear h hv hok hne hlen hR
  subst hve
  go_enter Tryd.func43, Tryd.ntmps43
  go_wp2_with (first | (go_at_call 82; refine hc.out.mono ?_; rintro e w2 ⟨rfl, hb2⟩; have c3 := (HH.out.below hb2).hs.cell (i := 3) rfl; have HB2 := Lib.hid hb2; clear hb2) | fail)
  refine wp_loop_count (fun i a w' => Is (fun U => ⟨#[.pointer (some ⟨p, 0, none⟩), U 1, U 2, U 3, U 4, U 5, U 6, .int .i64 (Bm.ones' W : Nat), U 8, U 9, U 10, U 11, U 12, U 13, U 14, U 15, U 16, U 17, U 18, U 19, U 20, U 21, U 22, .slice q R cp, .int .i64 (R : Nat), .int .i64 i, U 26, U 27, U 28, U 29, U 30, U 31, U 32, U 33, U 34, U 35, U 36, U 37, U 38, U 39, U 40, U 41, U 42, U 43, U 44, U 45, U 46, U 47, U 48], []⟩) a ∧ BM w' p bw ba n (Bm.merTo W V i) ∧ Mod (BM.At p bw ba) w w') R ⟨isU (fun U => ⟨#[.pointer (some ⟨p, 0, none⟩), U 1, U 2, U 3, U 4, U 5, U 6, .int .i64 (Bm.ones' W : Nat), U 8, U 9, U 10, U 11, U 12, U 13, U 14, U 15, U 16, U 17, U 18, U 19, U 20, U 21, U 22, .slice q R cp, .int .i64 (R : Nat), .int .i64 0, U 26, U 27, U 28, U 29, U 30, U 31, U 32, U 33, U 34, U 35, U 36, U 37, U 38, U 39, U 40, U 41, U 42, U 43, U 44, U 45, U 46, U 47, U 48], []⟩) rfl, by rw [Bm.merTo_zero]; exact HH.out.below HB2.out, Mod.of_below HB2.out⟩ ?_ ?_
  · rintro i a w' hi ⟨hU, hm, hmd⟩
    obtain ⟨U, rfl⟩ := hU.out
    obtain ⟨x, hx⟩ : ∃ x, W[i]? = some x := ⟨_, List.getElem?_eq_getElem (by rw [HLEN.out, ← HR.out]; exact hi)⟩
    obtain ⟨y, hy⟩ : ∃ y, V[i]? = some y := ⟨_, List.getElem?_eq_getElem (by rw [HOK.out.len, ← HR.out]; exact hi)⟩
    have hv' := HV.out.mod hmd (fun _ => HNE.out)
    have hcy : ∃ g o, q = some ⟨g, o, none⟩ ∧ w'.cell? ⟨g, o + i, none⟩ = some (uv y) := by
      obtain ⟨p', c', e', _, _, _, hr⟩ := hv'
      simp only [Value.slice.injEq] at e'
      obtain ⟨rfl, -, -⟩ := e'
      obtain ⟨g, o, e, _, h⟩ := hr _ _ hy
      exact ⟨g, o, e, h⟩
    obtain ⟨g, o, rfl, hcy⟩ := hcy
    have c1 := hm.hs.cell (i := 1) rfl
    rw [← HR.out] at c1
    have cw := hm.hw.cell (i := i) (v := uv x) (by rw [List.getElem?_map, Bm.merTo_at hx]; rfl)
    have hlay := lay_calls hm (k := i) (by rw [Bm.merTo_length, HLEN.out, ← HR.out]; exact hi) (x ||| y) (by rw [Bm.merTo_next hx hy]; exact Bm.merTo_ok HH.out.ok HOK.out _)
    rw [Bm.merTo_next hx hy] at hlay
    have hor : bits .or .u64 (x.toNat : Int) (y.toNat : Int) = ((x ||| y : UInt64).toNat : Int) := by rw [u64_or_nat _ _ x.toNat_lt y.toNat_lt, UInt64.toNat_or]
    have HL := Lib.hid hlay
    have HM := Lib.hid hmd
    have hi' : (i : Int) < (R : Int) := by exact_mod_cast hi
    have hi0 : (0 : Int) ≤ (i : Int) := Int.natCast_nonneg i
    clear hU hm hmd hx hy hv' hlay hc c0 c3
    go_wp2_with (first | (go_at_call 69; refine HL.out.mono ?_; rintro e w3 ⟨rfl, hm3, hmd3⟩) | fail)
    exact ⟨isU (fun U => ⟨#[.pointer (some ⟨p, 0, none⟩), U 1, U 2, U 3, U 4, U 5, U 6, .int .i64 (Bm.ones' W : Nat), U 8, U 9, U 10, U 11, U 12, U 13, U 14, U 15, U 16, U 17, U 18, U 19, U 20, U 21, U 22, .slice (some ⟨g, o, none⟩) R cp, .int .i64 (R : Nat), .int .i64 (i + 1 : Nat), U 26, U 27, U 28, U 29, U 30, U 31, U 32, U 33, U 34, U 35, U 36, U 37, U 38, U 39, U 40, U 41, U 42, U 43, U 44, U 45, U 46, U 47, U 48], []⟩) rfl, hm3, HM.out.trans hmd3⟩
  · rintro a w' ⟨hU, hm, hmd⟩
    obtain ⟨U, rfl⟩ := hU.out
    have he : Bm.merTo W V R = Bm.mer W V := by unfold Bm.mer; rw [HLEN.out, ← HR.out]
    rw [he] at hm
    have c3' := hm.hs.cell (i := 3) rfl
    have hb1 := Bm.ones_le W
    have hb2 := Bm.ones_le (Bm.mer W V)
    rw [HLEN.out] at hb1
    rw [hm.ok.len] at hb2
    have hx1 : ((Bm.ones' W : Nat) : Int) ≤ 65536 := by have := HR.out; omega
    have hx2 : ((Bm.ones' (Bm.mer W V) : Nat) : Int) ≤ 65536 := by have := HR.out; omega
    have hx3 : (0 : Int) ≤ ((Bm.ones' W : Nat) : Int) := Int.natCast_nonneg _
    have hx4 : (0 : Int) ≤ ((Bm.ones' (Bm.mer W V) : Nat) : Int) := Int.natCast_nonneg _
    have HM := Lib.hid hm
    have HMD := Lib.hid hmd
    obtain ⟨z1, hz1⟩ : ∃ z, z = Bm.ones' W := ⟨_, rfl⟩
    obtain ⟨z2, hz2⟩ : ∃ z, z = Bm.ones' (Bm.mer W V) := ⟨_, rfl⟩
    rw [← hz1] at hx1 hx3 ⊢
    rw [← hz2] at hx2 hx4 c3'
    have HZ1 := Lib.hid hz1
    have HZ2 := Lib.hid hz2
    clear hU hm hmd hb1 hb2 he hc c0 c3 hz1 hz2
    go_wp2_with fail
    refine bodyPost_ret (results_tmp2 rfl _ _ _) rfl ?_
    refine ⟨?_, HM.out, HMD.out⟩
    rw [← HZ1.out, ← HZ2.out]
    rfl
set_option maxHeartbeats 4000000 in
theorem rmerge_err (h : RM w r bb bs) {v : Value} {V : List UInt64} (hv : RU w v V) (h1 : 1 ≤ bs.length) (he : Bm.validE bs.length V ≠ 0) : Pur Tryd.prog 66 #[.pointer (some ⟨r, 0, none⟩), v] w (.tuple #[.int .i64 0, .int .i64 (Bm.validE bs.length V : Nat)]) := by
  unfold Pur
  have hc := listed_calls h1 h.max hv
  have c0 := h.hs.cell (i := 0) rfl
  obtain ⟨E, hE⟩ : ∃ E, E = Bm.validE bs.length V := ⟨_, rfl⟩
  rw [← hE] at he hc ⊢
  have he' : (((E : Nat) : Int) != 0) = true := bne_iff_ne.2 fun e => he (Int.ofNat_inj.1 e)
  clear h hv hE he h1
  go_enter Tryd.func66, Tryd.ntmps66
  go_wp2_with (first | (go_at_call 91; refine hc.out.mono ?_; rintro e w2 ⟨rfl, hb2⟩) | fail)
  refine bodyPost_ret (results_tmp2 rfl _ _ _) rfl ?_
  exact ⟨rfl, hb2⟩
set_option maxHeartbeats 8000000 in
theorem rmerge_calls (h : RM w r bb bs) {v : Value} {V : List UInt64} (hv : RU w v V) (hok : Bm.Ok bs.length V) :
    Calls Tryd.prog 66 #[.pointer (some ⟨r, 0, none⟩), v] w fun e w' => e = .returned (.tuple #[.int .i64 (Bm.cnt (fun i => (Bm.bools bs.length V).getD i false && !bs.getD i false) 0 bs.length : Nat), .int .i64 0]) ∧ RM w' r bb (Bm.merB bs (Bm.bools bs.length V) bs.length) ∧ Mod (fun k => k = bb) w w' := by
  have hc := listed_calls hok.pos h.max hv
  rw [Bm.valid_of_ok hok] at hc
  have hbc := fun w1 (hb : Below w.heap.size w w1) => rbools_calls (hv.below hb) h.max hok.len
  obtain ⟨vs, hvs⟩ : ∃ vs, vs = Bm.bools bs.length V := ⟨_, rfl⟩
  have hvl : vs.length = bs.length := by rw [hvs, Bm.bools_length]
  rw [← hvs] at hbc ⊢
  have HH := Lib.hid h
  have HBC := Lib.hid hbc
  have hmx := h.max
  obtain ⟨L, hL⟩ : ∃ L, L = bs.length := ⟨_, rfl⟩
  have HL := Lib.hid hL
  have HVL := Lib.hid hvl
  have c0 := h.hs.cell (i := 0) rfl
  rw [← hL] at hmx hc c0 HBC ⊢
  clear h hv hok hvs hvl hbc hL
  go_enter Tryd.func66, Tryd.ntmps66
  go_wp2_with (first
    | (go_at_call 91; refine hc.out.mono ?_; rintro e w2 ⟨rfl, hb2⟩; have c02 := (HH.out.below hb2).hs.cell (i := 0) rfl; rw [← HL.out] at c02; have HB2 := Lib.hid hb2; clear hb2)
    | (go_at_call 92; refine (HBC.out w2 HB2.out).mono ?_; rintro e w3 ⟨g, rfl, hg3, hgl, hb3⟩)
    | fail)
  have h3 := (HH.out.below HB2.out).below hb3
  have hglt := heap_lt hg3
  have hgb : bb ≠ g := by have h1 := heap_lt HH.out.hb; have h2 := HB2.out.size; omega
  have HGB := Lib.hid hgb
  have H3 := Lib.hid h3
  have HG3 := Lib.hid hg3
  have HW3 : Hid (Mod (fun k => k = bb) w w3) := Lib.hid ((Mod.of_below HB2.out).onB hb3)
  clear h3 hg3 hgl hb3 hglt hgb c0 c02 hc
  refine wp_loop_count (fun j a w' => Is (fun U => ⟨#[.pointer (some ⟨r, 0, none⟩), U 1, U 2, U 3, U 4, U 5, U 6, .slice (some ⟨g, 0, none⟩) L L, .int .i64 (Bm.cnt (fun i => vs.getD i false && !bs.getD i false) 0 j : Nat), .int .i64 j, U 10, U 11, U 12, U 13, U 14, U 15, U 16, U 17, U 18, U 19, U 20, U 21, U 22, U 23, U 24, U 25, U 26, U 27, U 28, U 29, U 30, U 31, U 32, U 33, U 34, U 35, U 36, U 37, U 38, U 39, U 40, U 41, U 42, U 43, U 44, U 45, U 46, U 47, U 48, U 49, U 50, U 51, U 52, U 53, U 54, U 55], []⟩) a ∧ RM w' r bb (Bm.merB bs vs j) ∧ Mod (fun k => k = bb) w3 w') L ⟨isU (fun U => ⟨#[.pointer (some ⟨r, 0, none⟩), U 1, U 2, U 3, U 4, U 5, U 6, .slice (some ⟨g, 0, none⟩) L L, .int .i64 0, .int .i64 0, U 10, U 11, U 12, U 13, U 14, U 15, U 16, U 17, U 18, U 19, U 20, U 21, U 22, U 23, U 24, U 25, U 26, U 27, U 28, U 29, U 30, U 31, U 32, U 33, U 34, U 35, U 36, U 37, U 38, U 39, U 40, U 41, U 42, U 43, U 44, U 45, U 46, U 47, U 48, U 49, U 50, U 51, U 52, U 53, U 54, U 55], []⟩) rfl, by rw [Bm.merB_zero]; exact H3.out, Mod.refl _ _⟩ ?_ ?_
  · rintro j a w' hj ⟨hU, hrm, hmd⟩
    obtain ⟨U, rfl⟩ := hU.out
    have hlt : j < bs.length := by rw [← HL.out]; exact hj
    obtain ⟨b, hb⟩ : ∃ b, b = bs.getD j false := ⟨_, rfl⟩
    obtain ⟨u, hu⟩ : ∃ u, u = vs.getD j false := ⟨_, rfl⟩
    have hpb : (Bm.merB bs vs j)[j]? = some b := by
      have h1 := Bm.merB_getD bs vs j j
      rw [decide_eq_false (by omega), Bool.false_and, Bool.or_false, ← hb, List.getD_eq_getElem?_getD, List.getElem?_eq_getElem (by rw [Bm.merB_length]; exact hlt)] at h1
      rw [List.getElem?_eq_getElem (by rw [Bm.merB_length]; exact hlt)]
      exact congrArg some h1
    have hcb := hrm.hb.cell (i := j) (v := .bool b) (by simp [hpb])
    have hfb := hrm.hb.frozen j
    have hc0 := hrm.hs.cell (i := 0) rfl
    rw [Bm.merB_length, ← HL.out] at hc0
    have hcg := (HG3.out.mod hmd (fun e => HGB.out e.symm)).cell (i := j) (v := .bool u) (by
      rw [List.getElem?_map, List.getElem?_eq_getElem (by rw [HVL.out]; exact hlt), hu, List.getD_eq_getElem?_getD, List.getElem?_eq_getElem (by rw [HVL.out]; exact hlt)]; rfl)
    have hset := hrm.set j (b || u)
    rw [hb, hu, Bm.merB_next hlt, ← hb, ← hu] at hset
    have hmd2 := hmd.trans (Mod.setCell (F := fun k => k = bb) w' bb j (.bool (b || u)) rfl)
    have hsame : (u && !b) = false → RM w' r bb (Bm.merB bs vs (j + 1)) := fun e => by rw [Bm.merB_same hlt (by rw [← hb, ← hu]; exact e)]; exact hrm
    have hcn : Bm.cnt (fun i => vs.getD i false && !bs.getD i false) 0 (j + 1) = Bm.cnt (fun i => vs.getD i false && !bs.getD i false) 0 j + (if (u && !b) = true then 1 else 0) := by
      rw [Bm.cnt, Nat.zero_add, ← hb, ← hu]
    have hcl := Bm.cnt_le (fun i => vs.getD i false && !bs.getD i false) 0 j
    have HC := Lib.hid hcn
    have HS := Lib.hid hset
    have HM2 := Lib.hid hmd2
    have HM1 := Lib.hid hmd
    have HSA := Lib.hid hsame
    clear hcn
    generalize Bm.cnt (fun i => vs.getD i false && !bs.getD i false) 0 j = k at *
    have h2 : ((j : Nat) : Int) < (L : Int) := by omega
    have h3 : (0 : Int) ≤ ((j : Nat) : Int) := by omega
    have hk9 : k ≤ 65536 := by omega
    rw [HC.out]
    clear hlt hU hrm hmd hset hmd2 hpb hsame hb hu hcl
    cases b <;> cases u
    all_goals
      first | rw [if_neg (by decide), Nat.add_zero] | rw [if_pos (by decide)]
      go_wp2_with fail
      first
        | exact ⟨isU (fun U => ⟨#[.pointer (some ⟨r, 0, none⟩), U 1, U 2, U 3, U 4, U 5, U 6, .slice (some ⟨g, 0, none⟩) L L, .int .i64 k, .int .i64 (j + 1 : Nat), U 10, U 11, U 12, U 13, U 14, U 15, U 16, U 17, U 18, U 19, U 20, U 21, U 22, U 23, U 24, U 25, U 26, U 27, U 28, U 29, U 30, U 31, U 32, U 33, U 34, U 35, U 36, U 37, U 38, U 39, U 40, U 41, U 42, U 43, U 44, U 45, U 46, U 47, U 48, U 49, U 50, U 51, U 52, U 53, U 54, U 55], []⟩) rfl, HSA.out rfl, HM1.out⟩
        | exact ⟨isU (fun U => ⟨#[.pointer (some ⟨r, 0, none⟩), U 1, U 2, U 3, U 4, U 5, U 6, .slice (some ⟨g, 0, none⟩) L L, .int .i64 (k + 1 : Nat), .int .i64 (j + 1 : Nat), U 10, U 11, U 12, U 13, U 14, U 15, U 16, U 17, U 18, U 19, U 20, U 21, U 22, U 23, U 24, U 25, U 26, U 27, U 28, U 29, U 30, U 31, U 32, U 33, U 34, U 35, U 36, U 37, U 38, U 39, U 40, U 41, U 42, U 43, U 44, U 45, U 46, U 47, U 48, U 49, U 50, U 51, U 52, U 53, U 54, U 55], []⟩) rfl, HS.out, HM2.out⟩
  · rintro a w' ⟨hU, hrm, hmd⟩
    obtain ⟨U, rfl⟩ := hU.out
    have HR := Lib.hid hrm
    have HM := Lib.hid hmd
    clear hU hrm hmd
    go_wp2_with fail
    refine bodyPost_ret (results_tmp2 rfl _ _ _) rfl ?_
    exact ⟨rfl, HR.out, HW3.out.trans HM.out⟩
end
end Go.Proofs.YtckbckdaffdjmaaDoor

/- Find. -/
namespace Go.Proofs.YtckbckdaffdjmaaDoor
open Go.RowKit
set_option maxRecDepth 100000
set_option linter.unusedVariables false
set_option linter.unusedSimpArgs false

/-- A loop under an invariant that knows how many rounds are left at most. -/
theorem wp_loop_ghost {P : Program} {c : Code} {Q : Exit → Act → World → Prop} {a : Act} {w : World} (I : Nat → Act → World → Prop) (N : Nat) (h0 : I N a w)
    (hr : ∀ k a w, I k a w → c.wp P (Exit.then (fun a' w' => ∃ m, m < k ∧ I m a' w') Q) a w) : (Code.loop c).wp P Q a w := by
  have key : ∀ N k a w, k ≤ N → I k a w → Code.rounds P c Q (N + 1) a w := by
    intro N
    induction N with
    | zero =>
      intro k a w hk h
      refine Code.wp_mono (fun e a' w' he => ?_) (hr k a w h)
      cases e with
      | normal => obtain ⟨m, hm, _⟩ := he; omega
      | _ => exact he
    | succ N ih =>
      intro k a w hk h
      refine Code.wp_mono (fun e a' w' he => ?_) (hr k a w h)
      cases e with
      | normal => obtain ⟨m, hm, hi⟩ := he; exact ih m a' w' (by omega) hi
      | _ => exact he
  exact wp_loop_rounds (N + 1) (key N N a w (Nat.le_refl _) h0)
namespace Bm
/-- The first of k from i on that is so; else -1. -/
def findN (g : Nat → Bool) : Nat → Nat → Int
  | 0, _ => -1
  | k + 1, i => if g i = true then (i : Int) else findN g k (i + 1)
def find (g : Nat → Bool) (n f : Nat) : Int := findN g (n - f) f
def IsFind (g : Nat → Bool) (n f : Nat) (v : Int) : Prop := (v = -1 ∧ ∀ t, f ≤ t → t < n → g t = false) ∨ (∃ i : Nat, v = i ∧ f ≤ i ∧ i < n ∧ g i = true ∧ ∀ t, f ≤ t → t < i → g t = false)
theorem findN_is (g : Nat → Bool) : ∀ k i, IsFind g (i + k) i (findN g k i)
  | 0, i => .inl ⟨rfl, fun t h1 h2 => by omega⟩
  | k + 1, i => by
    rw [findN]
    split
    · rename_i h; exact .inr ⟨i, rfl, Nat.le_refl _, by omega, h, fun t h1 h2 => by omega⟩
    · rename_i h
      have h' : g i = false := by simpa using h
      have hi : ∀ t, i ≤ t → t ≠ i → i + 1 ≤ t := fun t _ _ => by omega
      rcases findN_is g k (i + 1) with ⟨e, h1⟩ | ⟨j, e, h1, h2, h3, h4⟩
      · refine .inl ⟨e, fun t ht1 ht2 => ?_⟩
        by_cases et : t = i
        · rw [et]; exact h'
        · exact h1 t (hi t ht1 et) (by omega)
      · refine .inr ⟨j, e, by omega, by omega, h3, fun t ht1 ht2 => ?_⟩
        by_cases et : t = i
        · rw [et]; exact h'
        · exact h4 t (hi t ht1 et) ht2
theorem find_is (g : Nat → Bool) (n f : Nat) : IsFind g n f (find g n f) := by
  by_cases h : f ≤ n
  · have := findN_is g (n - f) f
    rwa [show f + (n - f) = n by omega] at this
  · have e : n - f = 0 := by omega
    exact .inl ⟨by rw [find, e]; rfl, fun t h1 h2 => by omega⟩
theorem IsFind.unique {g : Nat → Bool} {n f : Nat} {u v : Int} (h : IsFind g n f u) (k : IsFind g n f v) : u = v := by
  rcases h with ⟨e, h1⟩ | ⟨i, e, h1, h2, h3, h4⟩ <;> rcases k with ⟨e', k1⟩ | ⟨j, e', k1, k2, k3, k4⟩
  · rw [e, e']
  · rw [h1 j k1 k2] at k3; cases k3
  · rw [k1 i h1 h2] at h3; cases h3
  · have : i = j := by
      rcases Nat.lt_trichotomy i j with c | c | c
      · rw [k4 i h1 c] at h3; cases h3
      · exact c
      · rw [h4 j k1 c] at k3; cases k3
    rw [e, e', this]
theorem IsFind.eq {g : Nat → Bool} {n f : Nat} {u : Int} (h : IsFind g n f u) : u = find g n f := h.unique (find_is g n f)
theorem find_congr {g g' : Nat → Bool} {n f : Nat} (h : ∀ t, t < n → g t = g' t) : find g n f = find g' n f := by
  refine IsFind.eq ?_
  rcases find_is g n f with ⟨e, h1⟩ | ⟨i, e, h1, h2, h3, h4⟩
  · exact .inl ⟨e, fun t a b => by rw [← h t b]; exact h1 t a b⟩
  · exact .inr ⟨i, e, h1, h2, by rw [← h i h2]; exact h3, fun t a b => by rw [← h t (by omega)]; exact h4 t a b⟩
end Bm
section
variable {w : World} {r bb : Nat} {bs : List Bool}
set_option maxHeartbeats 8000000 in
theorem rfind_calls (h : RM w r bb bs) {from_ : Int} (hw : (Lit.int .i64 from_).wf = true) (to : Bool) : Pur Tryd.prog 61 #[.pointer (some ⟨r, 0, none⟩), .int .i64 from_, .bool to] w (.int .i64 (Bm.find (fun i => bs.getD i false == to) bs.length from_.toNat)) := by
  unfold Pur
  have hmx := h.max
  have c0 := h.hs.cell (i := 0) rfl
  have lr := heap_lt h.hs
  have lb := heap_lt h.hb
  have HB := Lib.hid h.hb
  have hw2 := i64_wf hw
  obtain ⟨L, hL⟩ : ∃ L, L = bs.length := ⟨_, rfl⟩
  have HL := Lib.hid hL
  rw [← hL] at c0 hmx ⊢
  obtain ⟨f, hf⟩ : ∃ f, f = from_.toNat := ⟨_, rfl⟩
  obtain ⟨Z, hZ⟩ : ∃ Z, Z = Bm.find (fun i => bs.getD i false == to) L f := ⟨_, rfl⟩
  have HZ : Hid (∀ v, Bm.IsFind (fun i => bs.getD i false == to) L f v → v = Z) := Lib.hid fun v hv => by rw [hZ]; exact hv.eq
  rw [← hf, ← hZ]
  clear h hL hZ hw
  have HZ1 : Hid (∀ t, f ≤ t → t < f → ((fun i => bs.getD i false == to) t) = false) := Lib.hid fun t h1 h2 => by omega
  have hff : (from_ < 0 ∧ f = 0) ∨ (from_ = (f : Int) ∧ 0 ≤ from_) := by omega
  have HW := Lib.hid hw2
  clear hf hw2
  go_enter Tryd.func61, Tryd.ntmps61
  rcases hff with ⟨hneg, rfl⟩ | ⟨rfl, hpos⟩
  · go_wp2_with fail
    refine wp_loop_ghost (fun k a w' => ∃ i : Nat, k = L - i ∧ Is (fun U => ⟨#[.pointer (some ⟨r, 0, none⟩), U 1, .bool to, U 3, U 4, U 5, U 6, .int .i64 i, U 8, U 9, U 10, U 11, U 12, U 13, U 14, U 15, U 16, U 17, U 18, U 19, U 20, U 21, U 22, U 23, U 24, U 25, U 26, U 27, U 28, U 29], []⟩) a ∧ Below w.heap.size w w' ∧ 0 ≤ i ∧ ∀ t, 0 ≤ t → t < i → (bs.getD t false == to) = false) (L - 0) ⟨0, rfl, isU (fun U => ⟨#[.pointer (some ⟨r, 0, none⟩), U 1, .bool to, U 3, U 4, U 5, U 6, .int .i64 0, U 8, U 9, U 10, U 11, U 12, U 13, U 14, U 15, U 16, U 17, U 18, U 19, U 20, U 21, U 22, U 23, U 24, U 25, U 26, U 27, U 28, U 29], []⟩) rfl, Below.refl _ _, Nat.le_refl _, HZ1.out⟩ ?_
    rintro k a w' ⟨i, rfl, hU, hb, hfi, hno⟩
    obtain ⟨U, rfl⟩ := hU.out
    have hc0 := ((bcell hb).1 r 0 lr).trans c0
    have HBE := Lib.hid hb
    have HNO := Lib.hid hno
    have hi0 : (0 : Int) ≤ (i : Int) := Int.natCast_nonneg i
    by_cases hi : i < L
    · have hi' : (i : Int) < (L : Int) := by exact_mod_cast hi
      obtain ⟨b, hbb⟩ : ∃ b, b = bs.getD i false := ⟨_, rfl⟩
      have hcb := ((bcell hb).1 _ i lb).trans (HB.out.cell (i := i) (v := .bool b) (by
        rw [List.getElem?_map, List.getElem?_eq_getElem (by rw [← HL.out]; exact hi), hbb, List.getD_eq_getElem?_getD, List.getElem?_eq_getElem (by rw [← HL.out]; exact hi)]; rfl))
      have HBB := Lib.hid hbb
      have HI := Lib.hid hi
      have HFI := Lib.hid hfi
      clear hU hb hno hbb hi hfi c0
      by_cases he : (b == to) = true
      · clear hmx
        go_wp2_with fail
        go_ret
        exact ⟨congrArg (fun z => Ending.returned (.int .i64 z)) (HZ.out _ (.inr ⟨i, rfl, HFI.out, HI.out, by show (bs.getD i false == to) = true; rw [← HBB.out]; exact he, HNO.out⟩)), HBE.out⟩
      · have he' : (b == to) = false := by simpa using he
        clear he
        go_wp2_with fail
        refine ⟨L - (i + 1), by have := HI.out; omega, i + 1, rfl, isU (fun U => ⟨#[.pointer (some ⟨r, 0, none⟩), U 1, .bool to, U 3, U 4, U 5, U 6, .int .i64 (i + 1 : Nat), U 8, U 9, U 10, U 11, U 12, U 13, U 14, U 15, U 16, U 17, U 18, U 19, U 20, U 21, U 22, U 23, U 24, U 25, U 26, U 27, U 28, U 29], []⟩) rfl, HBE.out, by have := HFI.out; omega, fun t h1 h2 => ?_⟩
        by_cases et : t = i
        · rw [et, ← HBB.out]; exact he'
        · exact HNO.out t h1 (by omega)
    · have hi' : ¬ (i : Int) < (L : Int) := by omega
      have HI := Lib.hid hi
      clear hU hb hno hfi hmx hi
      go_wp2_with fail
      go_ret
      exact ⟨congrArg (fun z => Ending.returned (.int .i64 z)) (HZ.out _ (.inl ⟨rfl, fun t h1 h2 => HNO.out t h1 (by have := HI.out; omega)⟩)), HBE.out⟩
  · go_wp2_with fail
    refine wp_loop_ghost (fun k a w' => ∃ i : Nat, k = L - i ∧ Is (fun U => ⟨#[.pointer (some ⟨r, 0, none⟩), U 1, .bool to, U 3, U 4, U 5, U 6, .int .i64 i, U 8, U 9, U 10, U 11, U 12, U 13, U 14, U 15, U 16, U 17, U 18, U 19, U 20, U 21, U 22, U 23, U 24, U 25, U 26, U 27, U 28, U 29], []⟩) a ∧ Below w.heap.size w w' ∧ f ≤ i ∧ ∀ t, f ≤ t → t < i → (bs.getD t false == to) = false) (L - f) ⟨f, rfl, isU (fun U => ⟨#[.pointer (some ⟨r, 0, none⟩), U 1, .bool to, U 3, U 4, U 5, U 6, .int .i64 f, U 8, U 9, U 10, U 11, U 12, U 13, U 14, U 15, U 16, U 17, U 18, U 19, U 20, U 21, U 22, U 23, U 24, U 25, U 26, U 27, U 28, U 29], []⟩) rfl, Below.refl _ _, Nat.le_refl _, HZ1.out⟩ ?_
    rintro k a w' ⟨i, rfl, hU, hb, hfi, hno⟩
    obtain ⟨U, rfl⟩ := hU.out
    have hc0 := ((bcell hb).1 r 0 lr).trans c0
    have HBE := Lib.hid hb
    have HNO := Lib.hid hno
    have hi0 : (0 : Int) ≤ (i : Int) := Int.natCast_nonneg i
    by_cases hi : i < L
    · have hi' : (i : Int) < (L : Int) := by exact_mod_cast hi
      obtain ⟨b, hbb⟩ : ∃ b, b = bs.getD i false := ⟨_, rfl⟩
      have hcb := ((bcell hb).1 _ i lb).trans (HB.out.cell (i := i) (v := .bool b) (by
        rw [List.getElem?_map, List.getElem?_eq_getElem (by rw [← HL.out]; exact hi), hbb, List.getD_eq_getElem?_getD, List.getElem?_eq_getElem (by rw [← HL.out]; exact hi)]; rfl))
      have HBB := Lib.hid hbb
      have HI := Lib.hid hi
      have HFI := Lib.hid hfi
      clear hU hb hno hbb hi hfi c0
      by_cases he : (b == to) = true
      · clear hmx
        go_wp2_with fail
        go_ret
        exact ⟨congrArg (fun z => Ending.returned (.int .i64 z)) (HZ.out _ (.inr ⟨i, rfl, HFI.out, HI.out, by show (bs.getD i false == to) = true; rw [← HBB.out]; exact he, HNO.out⟩)), HBE.out⟩
      · have he' : (b == to) = false := by simpa using he
        clear he
        go_wp2_with fail
        refine ⟨L - (i + 1), by have := HI.out; omega, i + 1, rfl, isU (fun U => ⟨#[.pointer (some ⟨r, 0, none⟩), U 1, .bool to, U 3, U 4, U 5, U 6, .int .i64 (i + 1 : Nat), U 8, U 9, U 10, U 11, U 12, U 13, U 14, U 15, U 16, U 17, U 18, U 19, U 20, U 21, U 22, U 23, U 24, U 25, U 26, U 27, U 28, U 29], []⟩) rfl, HBE.out, by have := HFI.out; omega, fun t h1 h2 => ?_⟩
        by_cases et : t = i
        · rw [et, ← HBB.out]; exact he'
        · exact HNO.out t h1 (by omega)
    · have hi' : ¬ (i : Int) < (L : Int) := by omega
      have HI := Lib.hid hi
      clear hU hb hno hfi hmx hi
      go_wp2_with fail
      go_ret
      exact ⟨congrArg (fun z => Ending.returned (.int .i64 z)) (HZ.out _ (.inl ⟨rfl, fun t h1 h2 => HNO.out t h1 (by have := HI.out; omega)⟩)), HBE.out⟩
end
end Go.Proofs.YtckbckdaffdjmaaDoor

/- TrailingZeros64; the lowest bit: plain. -/
namespace Go.Proofs.YtckbckdaffdjmaaDoor
open Go.RowKit
set_option maxRecDepth 100000
set_option linter.unusedVariables false
set_option linter.unusedSimpArgs false

/-- The library's table. -/
abbrev Tz (w : World) : Prop := TabAt 0 Lib.deBruijn64tab w
theorem Tz.lt {w : World} (h : Tz w) : 0 < w.heap.size := cell_lt (h 0 (by decide))
theorem Tz.mod {F : Nat → Prop} {w w' : World} (h : Tz w) (hm : Mod F w w') (hf : ¬ F 0) : Tz w' := fun j hj => (World.cell?_of_block (hm.block _ h.lt hf)).trans (h j hj)
theorem Tz.below {w w' : World} (h : Tz w) (hb : Below w.heap.size w w') : Tz w' := h.mod (F := fun _ => False) (Mod.of_below hb) id
set_option maxHeartbeats 4000000 in
theorem tz_calls {w : World} (hT : Tz w) {x : Nat} (hx : x < 18446744073709551616) (hx0 : x ≠ 0) : Pur Tryd.prog 71 #[.int .u64 x] w (.int .i64 (Lib.ctz 64 x)) := by
  unfold Pur
  obtain ⟨hlow, hk⟩ := Lib.lowest_bit 64 x hx0 hx
  obtain ⟨hi, htab⟩ := Lib.deBruijn64_at _ hk
  have hcell := hT _ hi
  rw [htab] at hcell
  have key := tz64_key x _ hx hx0 hlow
  have hz : ((x : Int) == 0) = false := by simp; omega
  obtain ⟨i, hii⟩ : ∃ i, i = 2 ^ Lib.ctz 64 x * 285870213051353865 % 18446744073709551616 / 288230376151711744 := ⟨_, rfl⟩
  rw [← hii] at hi hcell key
  have hi' : (i : Int) < 64 := by
    have : (Lib.deBruijn64tab).length = 64 := by decide
    omega
  have hi0 : (0 : Int) ≤ (i : Int) := Int.natCast_nonneg i
  generalize Lib.ctz 64 x = k at *
  clear hlow hi htab hii hT
  go_enter Tryd.func71, Tryd.ntmps71
  go_wp2_with (simp only [key])
  go_ret
  exact ⟨rfl, Below.refl _ _⟩
namespace Bm
theorem ctz_bits {x : Nat} (h0 : x ≠ 0) (hx : x < 18446744073709551616) : Lib.ctz 64 x < 64 ∧ x.testBit (Lib.ctz 64 x) = true ∧ ∀ t, t < Lib.ctz 64 x → x.testBit t = false := by
  have e : Lib.ctz 64 x = Lib.ctzFrom 64 x := by unfold Lib.ctz; rw [if_neg h0]
  obtain ⟨m, hm, hk⟩ := Lib.ctzFrom_spec 64 x (by omega) hx
  rw [e]
  refine ⟨hk, ?_, fun t ht => ?_⟩
  · generalize Lib.ctzFrom 64 x = k at *
    rw [hm, Nat.mul_comm, Nat.testBit_mul_two_pow, Nat.sub_self, decide_eq_true (Nat.le_refl _), Nat.testBit_zero]
    simp
  · generalize Lib.ctzFrom 64 x = k at *
    rw [hm, Nat.mul_comm, Nat.testBit_mul_two_pow, decide_eq_false (by omega), Bool.false_and]
theorem no_bits {x : Nat} (h : x = 0) (t : Nat) : x.testBit t = false := by subst h; exact Nat.zero_testBit t
theorem shift_bit (x r t : Nat) : (x / 2 ^ r).testBit t = x.testBit (r + t) := by rw [Nat.testBit_div_two_pow]; congr 1; omega
end Bm
end Go.Proofs.YtckbckdaffdjmaaDoor

/- Next. -/
namespace Go.Proofs.YtckbckdaffdjmaaDoor
open Go.RowKit
set_option maxRecDepth 100000
set_option linter.unusedVariables false
set_option linter.unusedSimpArgs false

namespace Bm
section
variable {n : Nat} {W : List UInt64}
theorem bit_at {k : Nat} {x : UInt64} (hx : W[k]? = some x) {r : Nat} (hr : r < 64) : bit W (64 * k + r) = x.toNat.testBit r := by
  unfold bit
  rw [List.getD_eq_getElem?_getD, show (64 * k + r) / 64 = k by omega, hx, show (64 * k + r) % 64 = r by omega]; rfl
/-- The first word. -/
theorem find_here (h : Ok n W) {f : Nat} {x : UInt64} (hx : W[f / 64]? = some x) {y : Nat} (hy : y = x.toNat / 2 ^ (f % 64)) (h0 : y ≠ 0) : IsFind (bit W) n f ((f : Int) + (Lib.ctz 64 y : Nat)) := by
  have hyl : y < 18446744073709551616 := by rw [hy]; exact Nat.lt_of_le_of_lt (Nat.div_le_self _ _) x.toNat_lt
  obtain ⟨h1, h2, h3⟩ := ctz_bits h0 hyl
  generalize Lib.ctz 64 y = c at *
  subst hy
  rw [shift_bit] at h2
  have hc : f % 64 + c < 64 := by
    rcases Nat.lt_or_ge (f % 64 + c) 64 with h | h
    · exact h
    · rw [Nat.testBit_lt_two_pow (Nat.lt_of_lt_of_le x.toNat_lt (Nat.pow_le_pow_right (by decide) h))] at h2; cases h2
  have hb : bit W (f + c) = true := by rw [show f + c = 64 * (f / 64) + (f % 64 + c) by omega, bit_at hx hc]; exact h2
  refine .inr ⟨f + c, by omega, by omega, ?_, hb, fun t ht1 ht2 => ?_⟩
  · rcases Nat.lt_or_ge (f + c) n with e | e
    · exact e
    · rw [h.tail _ e] at hb; cases hb
  · have := h3 (t - f) (by omega)
    rw [shift_bit] at this
    rw [show t = 64 * (f / 64) + (f % 64 + (t - f)) by omega, bit_at hx (by omega)]
    exact this
theorem none_here {f : Nat} {x : UInt64} (hx : W[f / 64]? = some x) (h0 : x.toNat / 2 ^ (f % 64) = 0) : ∀ t, f ≤ t → t < 64 * (f / 64 + 1) → bit W t = false := fun t h1 h2 => by
  rw [show t = 64 * (f / 64) + (f % 64 + (t - f)) by omega, bit_at hx (by omega), ← shift_bit, h0]; exact Nat.zero_testBit _
/-- The upper level. -/
theorem upper_at {k : Nat} {u : UInt64} (hu : (upper W)[k / 64]? = some u) {t : Nat} (ht : k % 64 + t < 64) : u.toNat.testBit (k % 64 + t) = decide (W.getD (k + t) 0 ≠ 0) := by
  rw [← upper_bit, show k + t = 64 * (k / 64) + (k % 64 + t) by omega, bit_at hu ht]
theorem word_zero {k : Nat} (h : W.getD k 0 = 0) {t : Nat} (h1 : 64 * k ≤ t) (h2 : t < 64 * k + 64) : bit W t = false := by
  unfold bit
  rw [show t / 64 = k by omega, h]; exact Nat.zero_testBit _
theorem none_up {k : Nat} {u : UInt64} (hu : (upper W)[k / 64]? = some u) (h0 : u.toNat / 2 ^ (k % 64) = 0) : ∀ t, 64 * k ≤ t → t < 64 * ((k / 64 + 1) * 64) → bit W t = false := fun t h1 h2 => by
  have hz : W.getD (t / 64) 0 = 0 := by
    have := upper_at hu (t := t / 64 - k) (by omega)
    rw [← shift_bit, h0, Nat.zero_testBit, show k + (t / 64 - k) = t / 64 by omega] at this
    simpa using this.symm
  exact word_zero hz (by omega) (by omega)
theorem some_up {k : Nat} {u : UInt64} (hu : (upper W)[k / 64]? = some u) {y : Nat} (hy : y = u.toNat / 2 ^ (k % 64)) (h0 : y ≠ 0) :
    Lib.ctz 64 y < 64 ∧ (∃ x, W[k + Lib.ctz 64 y]? = some x ∧ x ≠ 0) ∧ ∀ t, 64 * k ≤ t → t < 64 * (k + Lib.ctz 64 y) → bit W t = false := by
  have hyl : y < 18446744073709551616 := by rw [hy]; exact Nat.lt_of_le_of_lt (Nat.div_le_self _ _) u.toNat_lt
  obtain ⟨h1, h2, h3⟩ := ctz_bits h0 hyl
  generalize Lib.ctz 64 y = c at *
  subst hy
  have hc : k % 64 + c < 64 := by
    rcases Nat.lt_or_ge (k % 64 + c) 64 with h | h
    · exact h
    · rw [shift_bit, Nat.testBit_lt_two_pow (Nat.lt_of_lt_of_le u.toNat_lt (Nat.pow_le_pow_right (by decide) h))] at h2; cases h2
  rw [shift_bit, upper_at hu hc] at h2
  have hne : W.getD (k + c) 0 ≠ 0 := of_decide_eq_true h2
  refine ⟨h1, ?_, fun t ht1 ht2 => ?_⟩
  · cases e : W[k + c]? with
    | none => rw [List.getD_eq_getElem?_getD, e] at hne; exact absurd rfl hne
    | some x => rw [List.getD_eq_getElem?_getD, e] at hne; exact ⟨x, rfl, hne⟩
  · have hz : W.getD (t / 64) 0 = 0 := by
      have := h3 (t / 64 - k) (by omega)
      rw [shift_bit, upper_at hu (by omega), show k + (t / 64 - k) = t / 64 by omega] at this
      simpa using this
    exact word_zero hz (by omega) (by omega)
theorem find_word (h : Ok n W) {f k : Nat} {x : UInt64} (hfk : f ≤ 64 * k) (hx : W[k]? = some x) (h0 : x ≠ 0) (hno : ∀ t, f ≤ t → t < 64 * k → bit W t = false) : IsFind (bit W) n f (64 * (k : Int) + (Lib.ctz 64 x.toNat : Nat)) ∧ Lib.ctz 64 x.toNat < 64 := by
  obtain ⟨h1, h2, h3⟩ := ctz_bits (x := x.toNat) (fun e => h0 (UInt64.toNat_inj.1 e)) x.toNat_lt
  generalize Lib.ctz 64 x.toNat = c at *
  have hb : bit W (64 * k + c) = true := by rw [bit_at hx h1]; exact h2
  refine ⟨.inr ⟨64 * k + c, by omega, by omega, ?_, hb, fun t ht1 ht2 => ?_⟩, h1⟩
  · rcases Nat.lt_or_ge (64 * k + c) n with e | e
    · exact e
    · rw [h.tail _ e] at hb; cases hb
  · by_cases e : t < 64 * k
    · exact hno t ht1 e
    · rw [show t = 64 * k + (t - 64 * k) by omega, bit_at hx (by omega)]; exact h3 _ (by omega)
end
end Bm
end Go.Proofs.YtckbckdaffdjmaaDoor

/- Next: the walk. -/
namespace Go.Proofs.YtckbckdaffdjmaaDoor
open Go.RowKit
set_option maxRecDepth 100000
set_option linter.unusedVariables false
set_option linter.unusedSimpArgs false

theorem div_nat (x r : Nat) : (x : Int) / 2 ^ r = ((x / 2 ^ r : Nat) : Int) := by rw [Int.natCast_ediv]; simp
set_option maxHeartbeats 8000000 in
theorem next_calls {w : World} {p bw ba n : Nat} {W : List UInt64} (h : BM w p bw ba n W) (hT : Tz w) {from_ : Int} (hw : (Lit.int .i64 from_).wf = true) : Pur Tryd.prog 31 #[.pointer (some ⟨p, 0, none⟩), .int .i64 from_] w (.int .i64 (Bm.find (Bm.bit W) n from_.toNat)) := by
  unfold Pur
  have hmx := h.ok.max
  have hpos := h.ok.pos
  have hlen := h.ok.len
  have hul := Bm.upper_length W
  rw [hlen] at hul
  have hrl := h.room_le
  have c0 := h.hs.cell (i := 0) rfl
  have c1 := h.hs.cell (i := 1) rfl
  have c2 := h.hs.cell (i := 2) rfl
  have lp := heap_lt h.hs
  have lw := heap_lt h.hw
  have la := heap_lt h.ha
  have HM := Lib.hid h
  have HT := Lib.hid hT
  have HTZ : Hid (∀ w1, Below w.heap.size w w1 → ∀ x : Nat, x < 18446744073709551616 → x ≠ 0 → Pur Tryd.prog 71 #[.int .u64 x] w1 (.int .i64 (Lib.ctz 64 x))) := Lib.hid fun w1 hb x h1 h2 => tz_calls (hT.below hb) h1 h2
  have hw2 := i64_wf hw
  obtain ⟨f, hf⟩ : ∃ f, f = from_.toNat := ⟨_, rfl⟩
  obtain ⟨Z, hZ⟩ : ∃ Z, Z = Bm.find (Bm.bit W) n f := ⟨_, rfl⟩
  have HZ : Hid (∀ v, Bm.IsFind (Bm.bit W) n f v → v = Z) := Lib.hid fun v hv => by rw [hZ]; exact hv.eq
  rw [← hf, ← hZ]
  have hff : (from_ < 0 ∧ f = 0) ∨ (from_ = (f : Int) ∧ 0 ≤ from_) := by omega
  obtain ⟨R, hR⟩ : ∃ R, R = Bm.room n := ⟨_, rfl⟩
  obtain ⟨R2, hR2⟩ : ∃ R2, R2 = Bm.room R := ⟨_, rfl⟩
  rw [← hR] at c1 c2 hlen hrl hul
  rw [← hR2] at c2 hrl hul
  have HLEN := Lib.hid hlen
  have HUL := Lib.hid hul
  have HRR : Hid (64 * R < n + 64 ∧ n ≤ 64 * R ∧ 64 * R2 < R + 64 ∧ R ≤ 64 * R2) := Lib.hid (by rw [hR2, hR]; unfold Bm.room; omega)
  have hr9 : (R : Int) ≤ 1024 := by omega
  have hr92 : (R2 : Int) ≤ 16 := by omega
  clear h hT hZ hw hf hw2 hlen hul hR hR2 hrl
  go_enter Tryd.func31, Tryd.ntmps31
  go_upto_if 9 with fail
  rename_i hnext
  refine wp_cut (fun a' w' => Is (fun U => ⟨#[.pointer (some ⟨p, 0, none⟩), .int .i64 (f : Int), U 2, U 3, .int .i64 0, U 5, U 6, U 7, U 8, U 9, U 10, U 11, U 12, U 13, U 14, U 15, U 16, U 17, U 18, U 19, U 20, U 21, U 22, U 23, U 24, U 25, U 26, U 27, U 28, U 29, U 30, U 31, U 32, U 33, U 34, U 35, U 36, U 37, U 38, U 39, U 40, U 41, U 42, U 43, U 44, U 45, U 46, U 47, U 48, U 49, U 50, U 51, U 52, U 53, U 54, U 55, U 56, U 57, U 58, U 59, U 60, U 61, U 62, U 63, U 64, U 65, U 66, U 67, U 68, U 69, U 70, U 71, U 72, U 73, U 74, U 75, U 76], []⟩) a' ∧ w' = w) ?_ ?_
  · rintro a w' ⟨hU, hww⟩
    rw [hww]
    clear hww w'
    obtain ⟨U, rfl⟩ := hU.out
    refine hnext _ _ ?_
    clear hnext hff hU
    have hf0 : (0 : Int) ≤ (f : Int) := Int.natCast_nonneg f
    by_cases hfn : (n : Int) ≤ (f : Int)
    · go_wp2_with fail
      go_ret
      exact ⟨congrArg (fun z => Ending.returned (.int .i64 z)) (HZ.out _ (.inl ⟨rfl, fun t h1 h2 => by omega⟩)), Below.refl _ _⟩
    · have hfn' : (f : Int) < (n : Int) := by omega
      have hrr := HRR.out
      obtain ⟨x, hx⟩ : ∃ x, W[f / 64]? = some x := ⟨_, List.getElem?_eq_getElem (by rw [HLEN.out]; omega)⟩
      obtain ⟨y, hy⟩ : ∃ y, y = x.toNat / 2 ^ (f % 64) := ⟨_, rfl⟩
      have hd := div_nat x.toNat (f % 64)
      rw [← hy] at hd
      have hyl : y < 18446744073709551616 := by rw [hy]; exact Nat.lt_of_le_of_lt (Nat.div_le_self _ _) x.toNat_lt
      have cw := HM.out.hw.cell (i := f / 64) (v := uv x) (by simp [hx])
      have hq0 : 0 ≤ (f : Int) / 64 := by omega
      have hq1 : (f : Int) / 64 < (R : Int) := by omega
      have hq2 : ((f : Int) / 64).toNat = f / 64 := by omega
      have hf9 : (f : Int) ≤ 65536 := by omega
      clear hrr
      by_cases h0 : y = 0
      · have hy0 : ((y : Int) != 0) = false := by rw [h0]; rfl
        have HN1 := Lib.hid (Bm.none_here hx (by rw [← hy]; exact h0))
        clear hx hy h0 hyl
        go_wp2_with fail
        refine wp_loop_ghost (fun z a w' => ∃ k : Nat, z = R - k ∧ Is (fun U => ⟨#[.pointer (some ⟨p, 0, none⟩), U 1, U 2, U 3, .int .i64 0, .int .i64 k, U 6, U 7, U 8, U 9, U 10, U 11, U 12, U 13, U 14, U 15, U 16, U 17, U 18, U 19, U 20, U 21, U 22, U 23, U 24, U 25, U 26, U 27, U 28, U 29, U 30, U 31, U 32, U 33, U 34, U 35, U 36, U 37, U 38, U 39, U 40, U 41, U 42, U 43, U 44, U 45, U 46, U 47, U 48, U 49, U 50, U 51, U 52, U 53, U 54, U 55, U 56, U 57, U 58, U 59, U 60, U 61, U 62, U 63, U 64, U 65, U 66, U 67, U 68, U 69, U 70, U 71, U 72, U 73, U 74, U 75, U 76], []⟩) a ∧ Below w.heap.size w w' ∧ f ≤ 64 * k ∧ k ≤ 1100 ∧ ∀ t, f ≤ t → t < 64 * k → Bm.bit W t = false) (R - (f / 64 + 1)) ⟨f / 64 + 1, rfl, isU (fun U => ⟨#[.pointer (some ⟨p, 0, none⟩), U 1, U 2, U 3, .int .i64 0, .int .i64 ((f : Int) / 64 + 1), U 6, U 7, U 8, U 9, U 10, U 11, U 12, U 13, U 14, U 15, U 16, U 17, U 18, U 19, U 20, U 21, U 22, U 23, U 24, U 25, U 26, U 27, U 28, U 29, U 30, U 31, U 32, U 33, U 34, U 35, U 36, U 37, U 38, U 39, U 40, U 41, U 42, U 43, U 44, U 45, U 46, U 47, U 48, U 49, U 50, U 51, U 52, U 53, U 54, U 55, U 56, U 57, U 58, U 59, U 60, U 61, U 62, U 63, U 64, U 65, U 66, U 67, U 68, U 69, U 70, U 71, U 72, U 73, U 74, U 75, U 76], []⟩) (by rfl), Below.refl _ _, by omega, by omega, HN1.out⟩ ?_
        rintro z a w' ⟨k, rfl, hU, hb, hfk, hk9, hno⟩
        obtain ⟨U, rfl⟩ := hU.out
        have HB := Lib.hid hb
        have HFK := Lib.hid hfk
        have HNO := Lib.hid hno
        have d1 := ((bcell hb).1 _ _ lp).trans c1
        have d2 := ((bcell hb).1 _ _ lp).trans c2
        have hk0 : (0 : Int) ≤ (k : Int) := Int.natCast_nonneg k
        clear hU hb hfk hno c0 c1 c2 cw hd hy0 hq0 hq1 hq2 hfn
        by_cases hkR : (k : Int) < (R : Int)
        · have hrr := HRR.out
          obtain ⟨u, hu⟩ : ∃ u, (Bm.upper W)[k / 64]? = some u := ⟨_, List.getElem?_eq_getElem (by rw [HUL.out]; omega)⟩
          obtain ⟨v, hv⟩ : ∃ v, v = u.toNat / 2 ^ (k % 64) := ⟨_, rfl⟩
          have hdu := div_nat u.toNat (k % 64)
          rw [← hv] at hdu
          have hvl : v < 18446744073709551616 := by rw [hv]; exact Nat.lt_of_le_of_lt (Nat.div_le_self _ _) u.toNat_lt
          have cu := ((bcell HB.out).1 _ _ la).trans (HM.out.ha.cell (i := k / 64) (v := uv u) (by simp [hu]))
          have hp0 : 0 ≤ (k : Int) / 64 := by omega
          have hp1 : (k : Int) / 64 < (R2 : Int) := by omega
          have hp2 : ((k : Int) / 64).toNat = k / 64 := by omega
          clear hrr
          by_cases hv0 : v = 0
          · have hvv : ((v : Int) == 0) = true := by rw [hv0]; rfl
            have HN2 := Lib.hid (Bm.none_up hu (by rw [← hv]; exact hv0))
            have HKR := Lib.hid hkR
            clear hu hv hv0 hvl
            go_wp2_with fail
            have hko := HKR.out
            refine ⟨R - (k / 64 + 1) * 64, by omega, (k / 64 + 1) * 64, rfl, isU (fun U => ⟨#[.pointer (some ⟨p, 0, none⟩), U 1, U 2, U 3, .int .i64 0, .int .i64 (((k : Int) / 64 + 1) * 64), U 6, U 7, U 8, U 9, U 10, U 11, U 12, U 13, U 14, U 15, U 16, U 17, U 18, U 19, U 20, U 21, U 22, U 23, U 24, U 25, U 26, U 27, U 28, U 29, U 30, U 31, U 32, U 33, U 34, U 35, U 36, U 37, U 38, U 39, U 40, U 41, U 42, U 43, U 44, U 45, U 46, U 47, U 48, U 49, U 50, U 51, U 52, U 53, U 54, U 55, U 56, U 57, U 58, U 59, U 60, U 61, U 62, U 63, U 64, U 65, U 66, U 67, U 68, U 69, U 70, U 71, U 72, U 73, U 74, U 75, U 76], []⟩) (by rfl), HB.out, by have := HFK.out; omega, by omega, fun t h1 h2 => ?_⟩
            by_cases e : t < 64 * k
            · exact HNO.out t h1 e
            · exact HN2.out t (by omega) h2
          · have hvv : ((v : Int) == 0) = false := beq_eq_false_iff_ne.2 fun e => hv0 (Int.ofNat_inj.1 e)
            obtain ⟨hc64, ⟨x2, hx2, hx0⟩, hno2⟩ := Bm.some_up hu hv hv0
            have htz := HTZ.out w' HB.out v hvl hv0
            generalize Lib.ctz 64 v = c at *
            obtain ⟨hfin, hd64⟩ := Bm.find_word HM.out.ok (f := f) (by have := HFK.out; omega) hx2 hx0 (fun t h1 h2 => by
              by_cases e : t < 64 * k
              · exact HNO.out t h1 e
              · exact hno2 t (by omega) h2)
            have htz2 := fun w2 (hb2 : Below w'.heap.size w' w2) => HTZ.out w2 (HB.out.trans (hb2.mono HB.out.size)) x2.toNat x2.toNat_lt (fun e => hx0 (UInt64.toNat_inj.1 e))
            have hkc : k + c < R := by have := (List.getElem?_eq_some_iff.1 hx2).1; rw [HLEN.out] at this; exact this
            have hcw : w.cell? ⟨bw, k + c, none⟩ = some (uv x2) := HM.out.hw.cell (by simp [hx2])
            generalize Lib.ctz 64 x2.toNat = d at *
            have HFI := Lib.hid hfin
            have HT2 := Lib.hid htz2
            have HCW := Lib.hid hcw
            have hc1 : (c : Int) < 64 := by omega
            have hc0 : (0 : Int) ≤ (c : Int) := Int.natCast_nonneg c
            have hdd1 : (d : Int) < 64 := by omega
            have hdd0 : (0 : Int) ≤ (d : Int) := Int.natCast_nonneg d
            have HKC := Lib.hid hkc
            obtain ⟨m, hm⟩ : ∃ m, m = k + c := ⟨_, rfl⟩
            have hmi : (k : Int) + (c : Int) = (m : Int) := by omega
            have hm1 : (m : Int) < (R : Int) := by omega
            have hm0 : (0 : Int) ≤ (m : Int) := Int.natCast_nonneg m
            have hm9 : (m : Int) ≤ 1024 := by omega
            rw [← hm] at HFI HCW
            have HMI := Lib.hid hm
            clear hu hv hv0 hvl hfin htz2 hcw hno2 hx2 hx0 hkc hm
            go_wp2_with (first
              | (go_at_call 71; refine htz.out.mono ?_; rintro e w2 ⟨rfl, hb2⟩
                 have e1 := ((bcell hb2).1 _ _ (Nat.lt_of_lt_of_le lp HB.out.size)).trans d1
                 have ew := ((bcell (HB.out.trans (hb2.mono HB.out.size))).1 _ _ lw).trans HCW.out
                 have htz3 := HT2.out w2 hb2
                 have HB2 := Lib.hid hb2
                 clear hb2 htz d1 d2 cu)
              | (go_at_call 71; refine htz3.out.mono ?_; rintro e w3 ⟨rfl, hb3⟩)
              | fail)
            go_ret
            exact ⟨congrArg (fun z => Ending.returned (.int .i64 z)) (HZ.out _ HFI.out), HB.out.trans ((HB2.out.trans (hb3.mono HB2.out.size)).mono HB.out.size)⟩
        · have hkR' : (R : Int) ≤ (k : Int) := by omega
          go_wp2_with fail
          go_ret
          exact ⟨congrArg (fun z => Ending.returned (.int .i64 z)) (HZ.out _ (.inl ⟨rfl, fun t h1 h2 => HNO.out t h1 (by have := HRR.out; omega)⟩)), HB.out⟩
      · have hy0 : ((y : Int) != 0) = true := bne_iff_ne.2 fun e => h0 (Int.ofNat_inj.1 e)
        have HF := Lib.hid (Bm.find_here HM.out.ok hx hy h0)
        obtain ⟨hc64, -, -⟩ := Bm.ctz_bits h0 hyl
        have htz := HTZ.out w (Below.refl _ _) y hyl h0
        generalize Lib.ctz 64 y = c at *
        have hc1 : (c : Int) < 64 := by omega
        have hc0 : (0 : Int) ≤ (c : Int) := Int.natCast_nonneg c
        clear hx hy h0 hyl
        go_wp2_with (first | (go_at_call 71; refine htz.out.mono ?_; rintro e w2 ⟨rfl, hb2⟩) | fail)
        go_ret
        exact ⟨congrArg (fun z => Ending.returned (.int .i64 z)) (HZ.out _ HF.out), hb2⟩
  · intro J K' hJ hK'
    rcases hff with ⟨hneg, rfl⟩ | ⟨rfl, hpos⟩
    · go_wp2_with fail
      exact Met.intro (hJ _ _ ⟨isU (fun U => ⟨#[.pointer (some ⟨p, 0, none⟩), .int .i64 0, U 2, U 3, .int .i64 0, U 5, U 6, U 7, U 8, U 9, U 10, U 11, U 12, U 13, U 14, U 15, U 16, U 17, U 18, U 19, U 20, U 21, U 22, U 23, U 24, U 25, U 26, U 27, U 28, U 29, U 30, U 31, U 32, U 33, U 34, U 35, U 36, U 37, U 38, U 39, U 40, U 41, U 42, U 43, U 44, U 45, U 46, U 47, U 48, U 49, U 50, U 51, U 52, U 53, U 54, U 55, U 56, U 57, U 58, U 59, U 60, U 61, U 62, U 63, U 64, U 65, U 66, U 67, U 68, U 69, U 70, U 71, U 72, U 73, U 74, U 75, U 76], []⟩) rfl, rfl⟩)
    · go_wp2_with fail
      exact Met.intro (hJ _ _ ⟨isU (fun U => ⟨#[.pointer (some ⟨p, 0, none⟩), .int .i64 (f : Int), U 2, U 3, .int .i64 0, U 5, U 6, U 7, U 8, U 9, U 10, U 11, U 12, U 13, U 14, U 15, U 16, U 17, U 18, U 19, U 20, U 21, U 22, U 23, U 24, U 25, U 26, U 27, U 28, U 29, U 30, U 31, U 32, U 33, U 34, U 35, U 36, U 37, U 38, U 39, U 40, U 41, U 42, U 43, U 44, U 45, U 46, U 47, U 48, U 49, U 50, U 51, U 52, U 53, U 54, U 55, U 56, U 57, U 58, U 59, U 60, U 61, U 62, U 63, U 64, U 65, U 66, U 67, U 68, U 69, U 70, U 71, U 72, U 73, U 74, U 75, U 76], []⟩) rfl, rfl⟩)
end Go.Proofs.YtckbckdaffdjmaaDoor

/- NextClear. -/
namespace Go.Proofs.YtckbckdaffdjmaaDoor
open Go.RowKit
set_option maxRecDepth 100000
set_option linter.unusedVariables false
set_option linter.unusedSimpArgs false

namespace Bm
section
variable {n : Nat} {W : List UInt64}
/-- The first clear bit of the word, which may lie behind the end. -/
theorem clear_here {f : Nat} {x : UInt64} (hx : W[f / 64]? = some x) {y : Nat} (hy : y = (18446744073709551615 - x.toNat) / 2 ^ (f % 64)) (h0 : y ≠ 0) :
    Lib.ctz 64 y < 64 ∧ bit W (f + Lib.ctz 64 y) = false ∧ ∀ t, f ≤ t → t < f + Lib.ctz 64 y → bit W t = true := by
  have hn : ∀ t, (18446744073709551615 - x.toNat).testBit t = (decide (t < 64) && !x.toNat.testBit t) := fun t => not_bit x.toNat_lt t
  have hyl : y < 18446744073709551616 := by rw [hy]; exact Nat.lt_of_le_of_lt (Nat.div_le_self _ _) (by omega)
  obtain ⟨h1, h2, h3⟩ := ctz_bits h0 hyl
  generalize Lib.ctz 64 y = c at *
  subst hy
  rw [shift_bit, hn] at h2
  simp only [Bool.and_eq_true, decide_eq_true_eq, Bool.not_eq_true'] at h2
  refine ⟨h1, ?_, fun t ht1 ht2 => ?_⟩
  · rw [show f + c = 64 * (f / 64) + (f % 64 + c) by omega, bit_at hx h2.1]; exact h2.2
  · have := h3 (t - f) (by omega)
    rw [shift_bit, hn, decide_eq_true (by omega), Bool.true_and] at this
    rw [show t = 64 * (f / 64) + (f % 64 + (t - f)) by omega, bit_at hx (by omega)]
    simpa using this
theorem full_here {f : Nat} {x : UInt64} (hx : W[f / 64]? = some x) (h0 : (18446744073709551615 - x.toNat) / 2 ^ (f % 64) = 0) : ∀ t, f ≤ t → t < 64 * (f / 64 + 1) → bit W t = true := fun t h1 h2 => by
  have hn := not_bit x.toNat_lt (f % 64 + (t - f))
  rw [← shift_bit, h0, Nat.zero_testBit, decide_eq_true (by omega), Bool.true_and] at hn
  rw [show t = 64 * (f / 64) + (f % 64 + (t - f)) by omega, bit_at hx (by omega)]
  simpa using hn.symm
end
end Bm
theorem xor_all {x : Nat} (hx : x < 18446744073709551616) : 18446744073709551615 ^^^ x = 18446744073709551615 - x := by
  refine Nat.eq_of_testBit_eq fun i => ?_
  rw [Nat.testBit_xor, Bm.not_bit hx, show (18446744073709551615 : Nat) = 2 ^ 64 - 1 from rfl, Nat.testBit_two_pow_sub_one]
  by_cases e : i < 64
  · simp [e]
  · rw [Nat.testBit_lt_two_pow (Nat.lt_of_lt_of_le (show x < 2 ^ 64 from hx) (Nat.pow_le_pow_right (by decide) (by omega)))]; simp [e]
theorem not_word {x r : Nat} (hx : x < 18446744073709551616) : bits .xor .u64 (if IntKind.u64.signed = true then -1 else IntKind.u64.max) (x : Int) / 2 ^ r = (((18446744073709551615 - x) / 2 ^ r : Nat) : Int) := by
  have h1 : (if IntKind.u64.signed = true then (-1 : Int) else IntKind.u64.max) = ((18446744073709551615 : Nat) : Int) := rfl
  rw [h1, u64_xor_nat _ _ (by decide) hx, xor_all hx]
  exact div_nat _ _
set_option maxHeartbeats 8000000 in
theorem nextclear_calls {w : World} {p bw ba n : Nat} {W : List UInt64} (h : BM w p bw ba n W) (hT : Tz w) {from_ : Int} (hw : (Lit.int .i64 from_).wf = true) : Pur Tryd.prog 35 #[.pointer (some ⟨p, 0, none⟩), .int .i64 from_] w (.int .i64 (Bm.find (fun t => !Bm.bit W t) n from_.toNat)) := by
  unfold Pur
  have hmx := h.ok.max
  have hlen := h.ok.len
  have hrl := h.room_le
  have c0 := h.hs.cell (i := 0) rfl
  have c1 := h.hs.cell (i := 1) rfl
  have lp := heap_lt h.hs
  have lw := heap_lt h.hw
  have HM := Lib.hid h
  have HTZ : Hid (∀ w1, Below w.heap.size w w1 → ∀ x : Nat, x < 18446744073709551616 → x ≠ 0 → Pur Tryd.prog 71 #[.int .u64 x] w1 (.int .i64 (Lib.ctz 64 x))) := Lib.hid fun w1 hb x h1 h2 => tz_calls (hT.below hb) h1 h2
  have hw2 := i64_wf hw
  obtain ⟨f, hf⟩ : ∃ f, f = from_.toNat := ⟨_, rfl⟩
  obtain ⟨Z, hZ⟩ : ∃ Z, Z = Bm.find (fun t => !Bm.bit W t) n f := ⟨_, rfl⟩
  have HZ : Hid (∀ v, Bm.IsFind (fun t => !Bm.bit W t) n f v → v = Z) := Lib.hid fun v hv => by rw [hZ]; exact hv.eq
  rw [← hf, ← hZ]
  have hff : (from_ < 0 ∧ f = 0) ∨ (from_ = (f : Int) ∧ 0 ≤ from_) := by omega
  obtain ⟨R, hR⟩ : ∃ R, R = Bm.room n := ⟨_, rfl⟩
  rw [← hR] at c1 hlen hrl
  have HLEN := Lib.hid hlen
  have HRR : Hid (64 * R < n + 64 ∧ n ≤ 64 * R) := Lib.hid (by rw [hR]; unfold Bm.room; omega)
  have hr9 : (R : Int) ≤ 1024 := by omega
  have hfw : (f : Int) ≤ 9223372036854775807 := by omega
  clear h hT hZ hw hf hw2 hlen hR hrl
  go_enter Tryd.func35, Tryd.ntmps35
  go_upto_if 7 with fail
  rename_i hnext
  refine wp_cut (fun a' w' => Is (fun U => ⟨#[.pointer (some ⟨p, 0, none⟩), .int .i64 (f : Int), U 2, U 3, .int .i64 0, U 5, U 6, U 7, U 8, U 9, U 10, U 11, U 12, U 13, U 14, U 15, U 16, U 17, U 18, U 19, U 20, U 21, U 22, U 23, U 24, U 25, U 26, U 27, U 28, U 29, U 30, U 31, U 32, U 33, U 34, U 35, U 36, U 37, U 38, U 39, U 40, U 41, U 42, U 43], []⟩) a' ∧ w' = w) ?_ ?_
  · rintro a w' ⟨hU, hww⟩
    rw [hww]
    clear hww w'
    obtain ⟨U, rfl⟩ := hU.out
    refine hnext _ _ ?_
    clear hnext hff hU
    go_wp2_with fail
    refine wp_loop_ghost (fun z a w' => ∃ i : Nat, z = n - i ∧ Is (fun U => ⟨#[.pointer (some ⟨p, 0, none⟩), .int .i64 i, U 2, U 3, .int .i64 0, U 5, U 6, U 7, U 8, U 9, U 10, U 11, U 12, U 13, U 14, U 15, U 16, U 17, U 18, U 19, U 20, U 21, U 22, U 23, U 24, U 25, U 26, U 27, U 28, U 29, U 30, U 31, U 32, U 33, U 34, U 35, U 36, U 37, U 38, U 39, U 40, U 41, U 42, U 43], []⟩) a ∧ Below w.heap.size w w' ∧ f ≤ i ∧ (i = f ∨ i ≤ 70000) ∧ ∀ t, f ≤ t → t < i → Bm.bit W t = true) (n - f) ⟨f, rfl, isU (fun U => ⟨#[.pointer (some ⟨p, 0, none⟩), .int .i64 f, U 2, U 3, .int .i64 0, U 5, U 6, U 7, U 8, U 9, U 10, U 11, U 12, U 13, U 14, U 15, U 16, U 17, U 18, U 19, U 20, U 21, U 22, U 23, U 24, U 25, U 26, U 27, U 28, U 29, U 30, U 31, U 32, U 33, U 34, U 35, U 36, U 37, U 38, U 39, U 40, U 41, U 42, U 43], []⟩) rfl, Below.refl _ _, Nat.le_refl _, .inl rfl, fun t h1 h2 => by omega⟩ ?_
    rintro z a w' ⟨i, rfl, hU, hb, hfi, hi9, hno⟩
    obtain ⟨U, rfl⟩ := hU.out
    have HB := Lib.hid hb
    have HFI := Lib.hid hfi
    have HNO := Lib.hid hno
    have d0 := ((bcell hb).1 _ _ lp).trans c0
    have d1 := ((bcell hb).1 _ _ lp).trans c1
    have hi0 : (0 : Int) ≤ (i : Int) := Int.natCast_nonneg i
    clear hU hb hfi hno c0 c1
    by_cases hin : (i : Int) < (n : Int)
    · have hrr := HRR.out
      obtain ⟨x, hx⟩ : ∃ x, W[i / 64]? = some x := ⟨_, List.getElem?_eq_getElem (by rw [HLEN.out]; omega)⟩
      have cw := ((bcell HB.out).1 _ _ lw).trans (HM.out.hw.cell (i := i / 64) (v := uv x) (by simp [hx]))
      have hq0 : 0 ≤ (i : Int) / 64 := by omega
      have hq1 : (i : Int) / 64 < (R : Int) := by omega
      have hq2 : ((i : Int) / 64).toNat = i / 64 := by omega
      have hi8 : (i : Int) ≤ 65536 := by omega
      clear hrr hi9
      go_upto_region 5 with fail
      rename_i hnext
      obtain ⟨y, hy⟩ : ∃ y, y = (18446744073709551615 - x.toNat) / 2 ^ (i % 64) := ⟨_, rfl⟩
      have hyl : y < 18446744073709551616 := by rw [hy]; exact Nat.lt_of_le_of_lt (Nat.div_le_self _ _) (by omega)
      rw [not_word x.toNat_lt, ← hy]
      generalize bits .xor .u64 (if IntKind.u64.signed = true then -1 else IntKind.u64.max) (x.toNat : Int) = qq
      have HI := Lib.hid hin
      by_cases h0 : y = 0
      · have hy0 : ((y : Int) != 0) = false := by rw [h0]; rfl
        have HN1 := Lib.hid (Bm.full_here hx (by rw [← hy]; exact h0))
        clear hx hy h0 hyl cw hq1
        go_wp2_with fail
        have h1 := HI.out
        have h2 := HFI.out
        obtain ⟨m, hm⟩ : ∃ m : Nat, m = (i / 64 + 1) * 64 := ⟨_, rfl⟩
        have hmi : ((i : Int) / 64 + 1) * 64 = (m : Int) := by omega
        rw [hmi]
        refine ⟨n - m, by omega, m, rfl, isU (fun U => ⟨#[.pointer (some ⟨p, 0, none⟩), .int .i64 m, U 2, U 3, .int .i64 0, U 5, U 6, U 7, U 8, U 9, U 10, U 11, U 12, U 13, U 14, U 15, U 16, U 17, U 18, U 19, U 20, U 21, U 22, U 23, U 24, U 25, U 26, U 27, U 28, U 29, U 30, U 31, U 32, U 33, U 34, U 35, U 36, U 37, U 38, U 39, U 40, U 41, U 42, U 43], []⟩) rfl, HB.out, by omega, .inr (by omega), fun t h1 h2 => ?_⟩
        by_cases e : t < i
        · exact HNO.out t h1 e
        · exact HN1.out t (by omega) (by omega)
      · have hy0 : ((y : Int) != 0) = true := bne_iff_ne.2 fun e => h0 (Int.ofNat_inj.1 e)
        obtain ⟨hc64, hcb, hca⟩ := Bm.clear_here hx hy h0
        have htz := HTZ.out w' HB.out y hyl h0
        generalize Lib.ctz 64 y = c at *
        have hc1 : (c : Int) < 64 := by omega
        have hc0 : (0 : Int) ≤ (c : Int) := Int.natCast_nonneg c
        have HCB := Lib.hid hcb
        have HCA := Lib.hid hca
        clear hx hy h0 hyl hcb hca cw hq1
        by_cases hm : (n : Int) ≤ (i : Int) + (c : Int)
        · go_wp2_with (first | (go_at_call 71; refine htz.out.mono ?_; rintro e w2 ⟨rfl, hb2⟩; have e0 := ((bcell hb2).1 _ _ (Nat.lt_of_lt_of_le lp HB.out.size)).trans d0; have HB2 := Lib.hid hb2; clear hb2 d0 d1) | fail)
          go_ret
          exact ⟨congrArg (fun z => Ending.returned (.int .i64 z)) (HZ.out _ (.inl ⟨rfl, fun t h1 h2 => by
            show (!Bm.bit W t) = false
            by_cases e : t < i
            · rw [HNO.out t h1 e]; rfl
            · rw [HCA.out t (by omega) (by omega)]; rfl⟩)), HB.out.trans (HB2.out.mono HB.out.size)⟩
        · have hm' : (i : Int) + (c : Int) < (n : Int) := by omega
          go_wp2_with (first | (go_at_call 71; refine htz.out.mono ?_; rintro e w2 ⟨rfl, hb2⟩; have e0 := ((bcell hb2).1 _ _ (Nat.lt_of_lt_of_le lp HB.out.size)).trans d0; have HB2 := Lib.hid hb2; clear hb2 d0 d1) | fail)
          go_ret
          exact ⟨congrArg (fun z => Ending.returned (.int .i64 z)) (HZ.out _ (.inr ⟨i + c, by omega, by have := HFI.out; omega, by omega, by show (!Bm.bit W (i + c)) = true; rw [HCB.out]; rfl, fun t h1 h2 => by
            show (!Bm.bit W t) = false
            by_cases e : t < i
            · rw [HNO.out t h1 e]; rfl
            · rw [HCA.out t (by omega) (by omega)]; rfl⟩)), HB.out.trans (HB2.out.mono HB.out.size)⟩
    · have hin' : (n : Int) ≤ (i : Int) := by omega
      clear hi9
      go_wp2_with fail
      go_ret
      exact ⟨congrArg (fun z => Ending.returned (.int .i64 z)) (HZ.out _ (.inl ⟨rfl, fun t h1 h2 => by
        show (!Bm.bit W t) = false
        rw [HNO.out t h1 (by omega)]; rfl⟩)), HB.out⟩
  · intro J K' hJ hK'
    rcases hff with ⟨hneg, rfl⟩ | ⟨rfl, hpos⟩
    · go_wp2_with fail
      exact Met.intro (hJ _ _ ⟨isU (fun U => ⟨#[.pointer (some ⟨p, 0, none⟩), .int .i64 0, U 2, U 3, .int .i64 0, U 5, U 6, U 7, U 8, U 9, U 10, U 11, U 12, U 13, U 14, U 15, U 16, U 17, U 18, U 19, U 20, U 21, U 22, U 23, U 24, U 25, U 26, U 27, U 28, U 29, U 30, U 31, U 32, U 33, U 34, U 35, U 36, U 37, U 38, U 39, U 40, U 41, U 42, U 43], []⟩) rfl, rfl⟩)
    · go_wp2_with fail
      exact Met.intro (hJ _ _ ⟨isU (fun U => ⟨#[.pointer (some ⟨p, 0, none⟩), .int .i64 (f : Int), U 2, U 3, .int .i64 0, U 5, U 6, U 7, U 8, U 9, U 10, U 11, U 12, U 13, U 14, U 15, U 16, U 17, U 18, U 19, U 20, U 21, U 22, U 23, U 24, U 25, U 26, U 27, U 28, U 29, U 30, U 31, U 32, U 33, U 34, U 35, U 36, U 37, U 38, U 39, U 40, U 41, U 42, U 43], []⟩) rfl, rfl⟩)
end Go.Proofs.YtckbckdaffdjmaaDoor

/- CountRange. -/
namespace Go.Proofs.YtckbckdaffdjmaaDoor
open Go.RowKit
attribute [local go_sem] Oper.semAt_some
set_option maxRecDepth 100000
set_option linter.unusedVariables false
set_option linter.unusedSimpArgs false

namespace Bm
theorem pop_mask {W : List UInt64} {s E : Nat} (hs : s < E) {y : UInt64} (hy : W[s / 64]? = some y) : pop 64 (y.toNat &&& maskN E s) = cnt (bit W) s (stopN E s - s) := by
  have hst := stop_gt hs
  have hsl := stop_le (E := E) (s := s)
  rw [pop_cnt, cnt_split (a := s % 64) (c := stopN E s - s) (m := 64) _ (by omega)]
  have hb : ∀ t, (y.toNat &&& maskN E s).testBit t = (y.toNat.testBit t && decide (s % 64 ≤ t ∧ t < s % 64 + (stopN E s - s))) := fun t => by rw [Nat.testBit_and, maskN_bit hs]
  rw [cnt_none (a := 0) (s % 64) fun t ht => by rw [hb, decide_eq_false (by omega), Bool.and_false], cnt_none (a := s % 64 + (stopN E s - s)) _ fun t ht => by rw [hb, decide_eq_false (by omega), Bool.and_false], Nat.zero_add, Nat.add_zero]
  exact cnt_congr _ fun t ht => by
    rw [hb, decide_eq_true (by omega), Bool.and_true, show s + t = 64 * (s / 64) + (s % 64 + t) by omega, bit_at hy (by omega)]
theorem cnt_more (g : Nat → Bool) {f s t : Nat} (h : f ≤ s) (h' : s ≤ t) : cnt g f (s - f) + cnt g s (t - s) = cnt g f (t - f) := by
  have := cnt_add g f (s - f) (t - s)
  rw [show s - f + (t - s) = t - f by omega, show f + (s - f) = s by omega] at this
  exact this.symm
end Bm
set_option maxHeartbeats 8000000 in
theorem countrange_err {w : World} {p bw ba n : Nat} {W : List UInt64} (h : BM w p bw ba n W) {first count : Int} (h1 : (Lit.int .i64 first).wf = true) (h2 : (Lit.int .i64 count).wf = true) (he : Bm.rangeE n first count ≠ 0) :
    Pur Tryd.prog 39 #[.pointer (some ⟨p, 0, none⟩), .int .i64 first, .int .i64 count] w (.tuple #[.int .i64 0, .int .i64 (Bm.rangeE n first count : Nat)]) := by
  unfold Pur
  have hb1 := below_alloc1 w (.cells #[.pointer (some ⟨p, 0, none⟩)] 32)
  have hf := fits_calls (h.below hb1) h1 h2
  obtain ⟨E, hE⟩ : ∃ E, E = Bm.rangeE n first count := ⟨_, rfl⟩
  rw [← hE] at he hf ⊢
  have he' : (((E : Nat) : Int) != 0) = true := bne_iff_ne.2 fun e => he (Int.ofNat_inj.1 e)
  have HF := Lib.hid hf
  have HB := Lib.hid hb1
  clear h h1 h2 hE he hb1 hf
  go_enter Tryd.func39, Tryd.ntmps39
  go_wp2_with (first | (go_at_call 74; refine HF.out.out.mono ?_; rintro e w1 ⟨rfl, hb2⟩) | fail)
  refine bodyPost_ret (results_tmp2 rfl _ _ _) rfl ?_
  exact ⟨rfl, HB.out.trans (hb2.mono HB.out.size)⟩
/-- What CountRange leaves at each place. -/
structure CntI (w W' : World) (p bw ba n : Nat) (V : List UInt64) (C D f E Z s : Nat) : Prop where
  bm : BM W' p bw ba n V
  box : Rw W' C 32 [.pointer (some ⟨p, 0, none⟩)]
  cnt : Rw W' D 3 [.int .i64 (Bm.cnt (Bm.bit V) f (s - f) : Nat)]
  mod : Mod (fun _ => False) w W'
  fs : f ≤ s
  sE : s ≤ E
  sz : Z ≤ W'.heap.size
theorem CntI.step {w X Y : World} {p bw ba n C D f E Z s : Nat} {V : List UInt64} {F : Nat → Prop} (h : CntI w X p bw ba n V C D f E Z s) (hm : Mod F X Y) (hF : ∀ k, F k → k ≠ C ∧ k ≠ D ∧ w.heap.size ≤ k ∧ ¬ BM.At p bw ba k) : CntI w Y p bw ba n V C D f E Z s :=
  ⟨h.bm.mod hm (fun e => (hF _ e).2.2.2 (.inl rfl)) (fun e => (hF _ e).2.2.2 (.inr (.inl rfl))) (fun e => (hF _ e).2.2.2 (.inr (.inr rfl))), h.box.mod hm (fun e => (hF _ e).1 rfl), h.cnt.mod hm (fun e => (hF _ e).2.1 rfl), h.mod.on hm fun k e => .inr (hF k e).2.2.1, h.fs, h.sE, Nat.le_trans h.sz hm.size⟩
set_option maxHeartbeats 8000000 in
theorem countrange_calls {w : World} {p bw ba n : Nat} {V : List UInt64} (h : BM w p bw ba n V) {f c : Nat} (hfc : f + c ≤ n) :
    Pur Tryd.prog 39 #[.pointer (some ⟨p, 0, none⟩), .int .i64 f, .int .i64 c] w (.tuple #[.int .i64 (Bm.cnt (Bm.bit V) f c : Nat), .int .i64 0]) := by
  unfold Pur
  have hmx := h.ok.max
  have hb1 := below_alloc1 w (.cells #[.pointer (some ⟨p, 0, none⟩)] 32)
  have hbox : Rw (w.alloc (.cells #[.pointer (some ⟨p, 0, none⟩)] 32)) w.heap.size 32 [.pointer (some ⟨p, 0, none⟩)] := heap_new _ _ _ rfl
  obtain ⟨w1, hw1⟩ : ∃ w1, w1 = w.alloc (.cells #[.pointer (some ⟨p, 0, none⟩)] 32) := ⟨_, rfl⟩
  obtain ⟨C, hC⟩ : ∃ C, C = w.heap.size := ⟨_, rfl⟩
  rw [← hw1] at hb1 hbox
  rw [← hC] at hbox
  have hf := fits_calls (h.below hb1) (first := f) (count := c) (wf_nat (by omega)) (wf_nat (by omega))
  rw [show Bm.rangeE n f c = 0 by unfold Bm.rangeE; rw [if_neg (by omega), if_neg (by omega)]] at hf
  have HF := Lib.hid hf
  have HB1 := Lib.hid hb1
  have HBOX := Lib.hid hbox
  have HH := Lib.hid h
  have HFC := Lib.hid hfc
  have cC := hbox.cell (i := 0) rfl
  have hf0 : (0 : Int) ≤ (f : Int) := Int.natCast_nonneg f
  have hc0 : (0 : Int) ≤ (c : Int) := Int.natCast_nonneg c
  have hf1 : (f : Int) ≤ 65536 := by omega
  have hc1 : (c : Int) ≤ 65536 := by omega
  clear h hb1 hbox hf hfc hmx
  (refine callsIn_wide (n := 0).1 (callsIn_of_wp_marks Tryd.func39 rfl trivial (wpIn_wide.2 ?_) rfl); simp only [Tryd.ntmps39, List.size_toArray, List.length_cons, List.length_nil, Nat.reduceAdd, Nat.reduceSub, Array.replicate_succ, Array.replicate_zero, List.push_toArray, List.append_toArray, List.nil_append, List.cons_append])
  go_upto_region 1 with fail
  rw [← hw1, ← hC]
  have HC := Lib.hid hC
  clear hw1 hC
  go_upto_region 4 with (first | (go_at_call 74; refine HF.out.out.mono ?_; rintro e w2 ⟨rfl, hb2⟩; have HB2 := Lib.hid hb2; clear hb2) | fail)
  clear cC
  go_upto_region 5 with fail
  have hD0 : Rw (w2.alloc (.cells #[.int .i64 0] 3)) w2.heap.size 3 [.int .i64 0] := heap_new _ _ _ rfl
  have hbD := below_alloc1 w2 (.cells #[.int .i64 0] 3)
  have hsD : (w2.alloc (.cells #[.int .i64 0] 3)).heap.size = w2.heap.size + 1 := by simp
  obtain ⟨wb, hwb⟩ : ∃ wb, wb = w2.alloc (.cells #[.int .i64 0] 3) := ⟨_, rfl⟩
  obtain ⟨D, hDD⟩ : ∃ D, D = w2.heap.size := ⟨_, rfl⟩
  rw [← hwb] at hD0 hbD hsD ⊢
  rw [← hDD] at hD0 hsD ⊢
  have HD0 := Lib.hid hD0
  have HBD := Lib.hid hbD
  have HSD := Lib.hid (And.intro hDD hsD)
  clear hD0 hbD hsD hDD hwb
  go_wp2_with (first | (go_at_call 75; refine masks_calls.mono ?_; rintro e w3 ⟨A, B, rfl, hAB, hA, hB, hra, hrb, hb3⟩) | fail)
  have hw23 : wb.heap.size ≤ w3.heap.size := hb3.size
  have HAL := Lib.hid (And.intro (heap_lt hra) (heap_lt hrb))
  have hn3 : ∀ l, wb.heap.size ≤ l → l ≠ C ∧ l ≠ D ∧ w.heap.size ≤ l ∧ ¬ BM.At p bw ba l := fun l hl => by
    have h1 := heap_lt HH.out.hs
    have h2 := heap_lt HH.out.hw
    have h3 := heap_lt HH.out.ha
    have h4 := HB1.out.size
    have h5 := HB2.out.size
    have h6 := heap_lt HBOX.out
    have h7 := HSD.out
    exact ⟨by omega, by omega, by omega, by rintro (e | e | e) <;> omega⟩
  have HN3 := Lib.hid hn3
  have HDN : Hid (D ≠ C ∧ w.heap.size ≤ D ∧ ¬ BM.At p bw ba D ∧ A ≠ D ∧ B ≠ D) := Lib.hid (by
    have h1 := heap_lt HH.out.hs
    have h2 := heap_lt HH.out.hw
    have h3 := heap_lt HH.out.ha
    have h4 := HB1.out.size
    have h5 := HB2.out.size
    have h6 := heap_lt HBOX.out
    have h7 := HSD.out
    exact ⟨by omega, by omega, by rintro (e | e | e) <;> omega, by omega, by omega⟩)
  have hw3 : Mod (fun _ => False) w w3 := (((Mod.of_below HB1.out).onB HB2.out).onB HBD.out).onB hb3
  have H3 : Hid (CntI w w3 p bw ba n V C D f (f + c) w3.heap.size f) := Lib.hid ⟨HH.out.mod hw3 id id id, ((HBOX.out.below HB2.out).below HBD.out).below hb3, by rw [Nat.sub_self]; exact HD0.out.below hb3, hw3, Nat.le_refl _, by omega, Nat.le_refl _⟩
  clear hn3 hw3
  refine wp_range (a₁ := ?fr) (s0 := f) (hg := rfl) (eg := fun args w => by kernel_rfl) (hc := masks_iter (E := f + c) hra (by simpa using hrb) hAB (by have := HFC.out; have := HH.out.ok.max; omega)) (hps := fun _ => rfl) (hT := fun _ _ h => h.2)
    (hKt := fun h k => ⟨k.1.trans h.1, k.2.trans h.2⟩) (hKb := fun X l o o' hl ho hc => ⟨World.putObj_heap_other ?_, World.putObj_heap_other ?_⟩) (I := fun s W' => CntI w W' p bw ba n V C D f (f + c) w3.heap.size s) (Ix := fun _ _ => False) ?hIT ?hIxT ?hI ?hIx ?h0 ?hIv (hassign := ?assign) (hbody := ?body) (hdone := ?done) (hstop := ?stop)
  case assign =>
    intro l x X K hK
    simp only [Mk.enc]
    gi_wp2
    exact hK
  case body =>
    rintro l s x X hI ⟨hs, rfl⟩
    have hok := HH.out.ok
    have hfc := HFC.out
    have hrl := hI.bm.room_le.1
    have hk : s / 64 < Bm.room n := Bm.stop_room hs hfc
    have hlen : V.length = Bm.room n := hI.bm.ok.len
    obtain ⟨y, hy⟩ : ∃ y, V[s / 64]? = some y := ⟨_, List.getElem?_eq_getElem (by omega)⟩
    obtain ⟨z, hz⟩ : ∃ z : UInt64, z = UInt64.ofNat (y.toNat &&& Bm.maskN (f + c) s) := ⟨_, rfl⟩
    have hzn : z.toNat = y.toNat &&& Bm.maskN (f + c) s := by rw [hz]; exact Bm.toNat_of (Nat.and_lt_two_pow (n := 64) _ (Bm.maskN_lt hs))
    have hand : bits .and .u64 (y.toNat : Int) ((Bm.maskN (f + c) s : Nat) : Int) = ((z.toNat : Nat) : Int) := by
      rw [u64_and_nat _ _ y.toNat_lt (Bm.maskN_lt hs), hzn]
    have hpop : Bm.pop 64 z.toNat = Bm.cnt (Bm.bit V) s (Bm.stopN (f + c) s - s) := by rw [hzn]; exact Bm.pop_mask hs hy
    have hone := fun w1 => onescount_calls (w := w1) (x := z)
    have hsum := Bm.cnt_more (Bm.bit V) hI.fs (Nat.le_of_lt (Bm.stop_gt hs))
    have hle1 := Bm.cnt_le (Bm.bit V) f (s - f)
    have hle2 := Bm.pop_le 64 z.toNat
    rw [← hpop] at hsum
    have lC := heap_lt hI.box
    have lD := heap_lt hI.cnt
    have lp := heap_lt hI.bm.hs
    have lw := heap_lt hI.bm.hw
    have cC := hI.box.cell (i := 0) rfl
    have cD := hI.cnt.cell (i := 0) rfl
    have c1 := hI.bm.hs.cell (i := 1) rfl
    have cw := hI.bm.hw.cell (i := s / 64) (v := uv y) (by simp [hy])
    have hk1 : (((s / 64 : Nat) : Nat) : Int) < ((Bm.room n : Nat) : Int) := by exact_mod_cast hk
    have hk0 : (0 : Int) ≤ ((s / 64 : Nat) : Int) := Int.natCast_nonneg _
    have HI := Lib.hid hI
    have HS := Lib.hid hs
    have hsE : s ≤ 65536 := by have := HH.out.ok.max; omega
    obtain ⟨z1, hz1⟩ : ∃ z1, z1 = Bm.cnt (Bm.bit V) f (s - f) := ⟨_, rfl⟩
    obtain ⟨z2, hz2⟩ : ∃ z2, z2 = Bm.pop 64 z.toNat := ⟨_, rfl⟩
    rw [← hz1] at cD hsum hle1
    rw [← hz2] at hone hsum hle2
    have HSUM := Lib.hid hsum
    have hx1 : ((z1 : Nat) : Int) ≤ 65536 := by omega
    have hx2 : ((z2 : Nat) : Int) ≤ 64 := by omega
    have hx3 : (0 : Int) ≤ ((z1 : Nat) : Int) := Int.natCast_nonneg _
    have hx4 : (0 : Int) ≤ ((z2 : Nat) : Int) := Int.natCast_nonneg _
    obtain ⟨k, hkk⟩ : ∃ k, k = s / 64 := ⟨_, rfl⟩
    obtain ⟨m, hmm⟩ : ∃ m, m = Bm.maskN (f + c) s := ⟨_, rfl⟩
    rw [← hkk] at hk1 hk0 cw ⊢
    rw [← hmm] at hand ⊢
    have fD := hI.cnt.frozen 0
    clear hok hfc hrl hk hlen hy hI hs hkk hmm hra hrb hb3 hz hzn hpop hsum hle1 hle2 hz1 hz2 hsE
    gi_wp2_with fail
    refine wpIn_region_R_tail (Below X.heap.size X) 12 (by kernel_rfl) (by kernel_rfl) (by kernel_rfl) (fun ⟨_, _, h⟩ => h) (Below.drew (Below.refl _ _)) ?_
    (repeat (first | (apply wpR_pass rfl; (try simp only [Act.put, List.setIfInBounds_toArray, List.set_cons_succ, List.set_cons_zero])) | (apply wpR_val rfl; (focus (intro w1 hR; obtain ⟨hc, hf⟩ := bcellB hR; (try go_simp); (try exact Eq.refl _); done)); (try simp only [Act.put, List.setIfInBounds_toArray, List.set_cons_succ, List.set_cons_zero])) | (apply wpR_call rfl; (focus (intro w1 hR; obtain ⟨hc, hf⟩ := bcellB hR; (try go_simp); (try exact And.intro rfl rfl); done)); (focus (intro w1 hR; first | exact (hone _).at_ (by first | omega | (simp; done) | (simp; omega)) hR)); (try simp only [Act.put, List.setIfInBounds_toArray, List.set_cons_succ, List.set_cons_zero])) | (apply wpR_val_want rfl; (focus (intro w1 hR; obtain ⟨hc, hf⟩ := bcellB hR; (try go_simp); (try exact Eq.refl _); done)); (try simp only [Act.put, List.setIfInBounds_toArray, List.set_cons_succ, List.set_cons_zero])) | (apply wpR_call_want rfl; (focus (intro w1 hR; obtain ⟨hc, hf⟩ := bcellB hR; (try go_simp); (try exact And.intro rfl rfl); done)); (focus (intro w1 hR; first | exact (hone _).at_ (by first | omega | (simp; done) | (simp; omega)) hR)); (try simp only [Act.put, List.setIfInBounds_toArray, List.set_cons_succ, List.set_cons_zero]))))
    refine wpR_nil ?_
    intro w4 hb4
    have hD4 := HI.out.cnt.below hb4
    have cD4 := hD4.cell (i := 0) rfl
    have fD4 := hD4.frozen 0
    have HB4 := Lib.hid hb4
    have HD4 := Lib.hid hD4
    clear hb4 hand cw c1 cC cD hD4 fD
    go_wp2_with fail
    have h0 : CntI w w4 p bw ba n V C D f (f + c) w3.heap.size s := HI.out.step (F := fun _ => False) (Mod.of_below HB4.out) fun _ e => e.elim
    have hm5 : Mod (fun k => k = D) w4 (w4.setCell ⟨D, 0, none⟩ (.int .i64 ((z1 : Int) + (z2 : Int)))) := Mod.setCell _ _ _ _ rfl
    have hdn := HDN.out
    have hsum := HSUM.out
    have hAl := HAL.out
    have hsz := h0.sz
    have hX : Mod (fun k => k = D) X (w4.setCell ⟨D, 0, none⟩ (.int .i64 ((z1 : Int) + (z2 : Int)))) := (Mod.of_below HB4.out).trans hm5
    have hset := h0.cnt.set 0 (.int .i64 ((z1 : Int) + (z2 : Int)))
    have hszX := HI.out.sz
    exact ⟨KeepsOthers.of_mod hX (fun j e => by subst e; exact ⟨_, _, _, HI.out.cnt⟩), ⟨hX.block A (by omega) hdn.2.2.2.1, hX.block B (by omega) hdn.2.2.2.2⟩, _, rfl,
      ⟨h0.bm.mod hm5 (fun e => hdn.2.2.1 (.inl e.symm)) (fun e => hdn.2.2.1 (.inr (.inl e.symm))) (fun e => hdn.2.2.1 (.inr (.inr e.symm))), h0.box.mod hm5 (fun e => hdn.1 e.symm),
        by rw [← hsum]; exact hset, h0.mod.on hm5 (fun k e => .inr (by subst e; exact hdn.2.1)), Nat.le_trans h0.fs (Nat.le_of_lt (Bm.stop_gt HS.out)), Bm.stop_le.1, Nat.le_trans hsz hm5.size⟩⟩
  case hIT =>
    rintro s X Y h ht
    exact h.step ht.1 fun k e => by subst e; exact HN3.out _ hA
  case hIxT => exact fun _ _ _ h _ => h
  case hI =>
    intro s X l o o' h hl ho hc
    exact h.step (mod_putObj _ _ _) fun k e => by subst e; exact HN3.out _ (Nat.le_trans hw23 hl)
  case hIx => exact fun _ _ _ _ _ h _ _ _ => h
  case h0 =>
    intro W1 hb
    exact H3.out.step (F := fun _ => False) (Mod.of_below hb) fun _ e => e.elim
  case hIv => exact fun _ _ _ => trivial
  case done =>
    intro Dd s X hD hI hfin hdef
    have hse : s = f + c := by have := hI.sE; omega
    subst hse
    have cD := hI.cnt.cell (i := 0) rfl
    rw [show f + c - f = c by omega] at cD
    have HI := Lib.hid hI
    have HD := Lib.hid hdef
    clear hI hdef hfin hra hrb hb3
    go_wp2_with fail
    refine ⟨by simp, .inl ⟨_, _, rfl, run_takeDeferred HD.out, ?_⟩⟩
    have hf : CntI w (X.putObj Dd (.deferred none)) p bw ba n V C D f (f + c) w3.heap.size (f + c) := HI.out.step (mod_putObj _ _ _) fun k e => by subst e; exact HN3.out _ (Nat.le_trans hw23 hD)
    exact ⟨_, results_tmp2 rfl _ _ _, rfl, hf.mod.below (Nat.le_refl _) fun _ e => e.elim⟩
  case stop => exact fun _ _ _ _ h _ => h.elim
  all_goals (intro e; have := HAL.out; omega)
end Go.Proofs.YtckbckdaffdjmaaDoor

/- ask: Test, CountRange, Next, NextClear; any other kind. -/
namespace Go.Proofs.YtckbckdaffdjmaaDoor
open Go.RowKit
set_option maxRecDepth 100000
set_option linter.unusedVariables false
set_option linter.unusedSimpArgs false

namespace Bm
/-- What Test tells of any number. -/
def tB (n : Nat) (W : List UInt64) (i : Int) : Bool := decide (0 ≤ i ∧ i < n) && bit W i.toNat
def tE (n : Nat) (i : Int) : Nat := if i < 0 ∨ (n : Int) ≤ i then 2 else 0
/-- What CountRange tells of any range. -/
def crV (n : Nat) (W : List UInt64) (f c : Int) : Nat := if rangeE n f c = 0 then cnt (bit W) f.toNat c.toNat else 0
end Bm
section
variable {w : World} {p bw ba n : Nat} {W : List UInt64} {r bb : Nat}
theorem test_any (h : BM w p bw ba n W) (i : Int) : Pur Tryd.prog 29 #[.pointer (some ⟨p, 0, none⟩), .int .i64 i] w (.tuple #[.bool (Bm.tB n W i), .int .i64 (Bm.tE n i : Nat)]) := by
  unfold Bm.tB Bm.tE
  by_cases hi : i < 0 ∨ (n : Int) ≤ i
  · rw [if_pos hi, decide_eq_false (by omega)]; exact test_err h hi
  · obtain ⟨m, rfl⟩ : ∃ m : Nat, i = m := ⟨i.toNat, by omega⟩
    rw [if_neg hi, decide_eq_true (by omega), Bool.true_and, Int.toNat_natCast]
    exact test_calls h (by omega)
theorem rtest_any (h : RM w r bb (Bm.bools n W)) (i : Int) : Pur Tryd.prog 58 #[.pointer (some ⟨r, 0, none⟩), .int .i64 i] w (.tuple #[.bool (Bm.tB n W i), .int .i64 (Bm.tE n i : Nat)]) := by
  unfold Bm.tB Bm.tE
  by_cases hi : i < 0 ∨ (n : Int) ≤ i
  · rw [if_pos hi, decide_eq_false (by omega)]; exact rtest_err h (by rw [Bm.bools_length]; exact hi)
  · obtain ⟨m, rfl⟩ : ∃ m : Nat, i = m := ⟨i.toNat, by omega⟩
    rw [if_neg hi, decide_eq_true (by omega), Bool.true_and, Int.toNat_natCast]
    have := rtest_calls h (i := m) (by rw [Bm.bools_length]; omega)
    rw [Bm.bools_getD, decide_eq_true (by omega), Bool.true_and] at this
    exact this
theorem countrange_any (h : BM w p bw ba n W) {f c : Int} (h1 : (Lit.int .i64 f).wf = true) (h2 : (Lit.int .i64 c).wf = true) : Pur Tryd.prog 39 #[.pointer (some ⟨p, 0, none⟩), .int .i64 f, .int .i64 c] w (.tuple #[.int .i64 (Bm.crV n W f c : Nat), .int .i64 (Bm.rangeE n f c : Nat)]) := by
  unfold Bm.crV
  by_cases he : Bm.rangeE n f c = 0
  · obtain ⟨k1, k2, k3, k4⟩ := Bm.rangeE_ok he
    rw [if_pos he, he]
    obtain ⟨a, rfl⟩ : ∃ a : Nat, f = a := ⟨f.toNat, by omega⟩
    obtain ⟨b, rfl⟩ : ∃ b : Nat, c = b := ⟨c.toNat, by omega⟩
    rw [Int.toNat_natCast, Int.toNat_natCast]
    exact countrange_calls h (by omega)
  · rw [if_neg he]; exact countrange_err h h1 h2 he
theorem rcountrange_any (h : RM w r bb (Bm.bools n W)) {f c : Int} (h1 : (Lit.int .i64 f).wf = true) (h2 : (Lit.int .i64 c).wf = true) : Pur Tryd.prog 60 #[.pointer (some ⟨r, 0, none⟩), .int .i64 f, .int .i64 c] w (.tuple #[.int .i64 (Bm.crV n W f c : Nat), .int .i64 (Bm.rangeE n f c : Nat)]) := by
  unfold Bm.crV
  by_cases he : Bm.rangeE n f c = 0
  · obtain ⟨k1, k2, k3, k4⟩ := Bm.rangeE_ok he
    rw [if_pos he, he]
    obtain ⟨a, rfl⟩ : ∃ a : Nat, f = a := ⟨f.toNat, by omega⟩
    obtain ⟨b, rfl⟩ : ∃ b : Nat, c = b := ⟨c.toNat, by omega⟩
    rw [Int.toNat_natCast, Int.toNat_natCast]
    have := rcountrange_calls h (f := a) (c := b) (by rw [Bm.bools_length]; omega)
    rw [Bm.cnt_congr (g := Bm.bit W) (b := a) b (fun t ht => by rw [Bm.bools_getD, decide_eq_true (by omega), Bool.true_and])] at this
    exact this
  · rw [if_neg he]
    have := rcountrange_err h h1 h2 (by rw [Bm.bools_length]; exact he)
    rw [Bm.bools_length] at this
    exact this
theorem rfind_true (h : RM w r bb (Bm.bools n W)) {f : Int} (hw : (Lit.int .i64 f).wf = true) : Pur Tryd.prog 61 #[.pointer (some ⟨r, 0, none⟩), .int .i64 f, .bool true] w (.int .i64 (Bm.find (Bm.bit W) n f.toNat)) := by
  have := rfind_calls h hw true
  rw [Bm.bools_length, Bm.find_congr (g' := Bm.bit W) (fun t ht => by rw [Bm.bools_getD, decide_eq_true ht, Bool.true_and]; cases Bm.bit W t <;> rfl)] at this
  exact this
theorem rfind_false (h : RM w r bb (Bm.bools n W)) {f : Int} (hw : (Lit.int .i64 f).wf = true) : Pur Tryd.prog 61 #[.pointer (some ⟨r, 0, none⟩), .int .i64 f, .bool false] w (.int .i64 (Bm.find (fun t => !Bm.bit W t) n f.toNat)) := by
  have := rfind_calls h hw false
  rw [Bm.bools_length, Bm.find_congr (g' := fun t => !Bm.bit W t) (fun t ht => by rw [Bm.bools_getD, decide_eq_true ht, Bool.true_and]; cases Bm.bit W t <;> rfl)] at this
  exact this
end
end Go.Proofs.YtckbckdaffdjmaaDoor
