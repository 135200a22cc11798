/- Walks and plain laws of the packets and frames, joined from: CntR, TlA, BkU, BkK, BkKn, LfU, Bok, MdU, MdF, AskA. -/
import Derived.Test.YtckbckdaffdjmaaDoorTk3
import Derived.Maps.AppendAt
import Derived.Laws.OwnMore
import Derived.Deep.Cut
import Derived.BigQuiet
/- CountRange. -/
namespace Go.Proofs.YtckbckdaffdjmaaDoor
open Go.RowKit
attribute [local go_sem] Oper.semAt_some
set_option maxRecDepth 100000
set_option linter.unusedVariables false
set_option linter.unusedSimpArgs false

namespace Bm
theorem pop_mask {W : List UInt64} {s E : Nat} (hs : s < E) {y : UInt64} (hy : W[s / 64]? = some y) : pop 64 (y.toNat &&& maskN E s) = cnt (bit W) s (stopN E s - s) := by
  have hst := stop_gt hs
  have hsl := stop_le (E := E) (s := s)
  rw [pop_cnt, cnt_split (a := s % 64) (c := stopN E s - s) (m := 64) _ (by omega)]
  have hb : ∀ t, (y.toNat &&& maskN E s).testBit t = (y.toNat.testBit t && decide (s % 64 ≤ t ∧ t < s % 64 + (stopN E s - s))) := fun t => by rw [Nat.testBit_and, maskN_bit hs]
  rw [cnt_none (a := 0) (s % 64) fun t ht => by rw [hb, decide_eq_false (by omega), Bool.and_false], cnt_none (a := s % 64 + (stopN E s - s)) _ fun t ht => by rw [hb, decide_eq_false (by omega), Bool.and_false], Nat.zero_add, Nat.add_zero]
  exact cnt_congr _ fun t ht => by
    rw [hb, decide_eq_true (by omega), Bool.and_true, show s + t = 64 * (s / 64) + (s % 64 + t) by omega, bit_at hy (by omega)]
theorem cnt_more (g : Nat → Bool) {f s t : Nat} (h : f ≤ s) (h' : s ≤ t) : cnt g f (s - f) + cnt g s (t - s) = cnt g f (t - f) := by
  have := cnt_add g f (s - f) (t - s)
  rw [show s - f + (t - s) = t - f by omega, show f + (s - f) = s by omega] at this
  exact this.symm
end Bm
set_option maxHeartbeats 8000000 in
theorem countrange_err {w : World} {p bw ba n : Nat} {W : List UInt64} (h : BM w p bw ba n W) {first count : Int} (h1 : (Lit.int .i64 first).wf = true) (h2 : (Lit.int .i64 count).wf = true) (he : Bm.rangeE n first count ≠ 0) :
    Pur Tryd.prog 39 #[.pointer (some ⟨p, 0, none⟩), .int .i64 first, .int .i64 count] w (.tuple #[.int .i64 0, .int .i64 (Bm.rangeE n first count : Nat)]) := by
  unfold Pur
  have hb1 := below_alloc1 w (.cells #[.pointer (some ⟨p, 0, none⟩)] 32)
  have hf := fits_calls (h.below hb1) h1 h2
  obtain ⟨E, hE⟩ : ∃ E, E = Bm.rangeE n first count := ⟨_, rfl⟩
  rw [← hE] at he hf ⊢
  have he' : (((E : Nat) : Int) != 0) = true := bne_iff_ne.2 fun e => he (Int.ofNat_inj.1 e)
  have HF := Lib.hid hf
  have HB := Lib.hid hb1
  clear h h1 h2 hE he hb1 hf
  go_enter Tryd.func39, Tryd.ntmps39
  go_wp2_with (first | (go_at_call 74; refine HF.out.out.mono ?_; rintro e w1 ⟨rfl, hb2⟩) | fail)
  refine bodyPost_ret (results_tmp2 rfl _ _ _) rfl ?_
  exact ⟨rfl, HB.out.trans (hb2.mono HB.out.size)⟩
/-- What CountRange leaves at each place. -/
structure CntI (w W' : World) (p bw ba n : Nat) (V : List UInt64) (C D f E Z s : Nat) : Prop where
  bm : BM W' p bw ba n V
  box : Rw W' C 32 [.pointer (some ⟨p, 0, none⟩)]
  cnt : Rw W' D 3 [.int .i64 (Bm.cnt (Bm.bit V) f (s - f) : Nat)]
  mod : Mod (fun _ => False) w W'
  fs : f ≤ s
  sE : s ≤ E
  sz : Z ≤ W'.heap.size
theorem CntI.step {w X Y : World} {p bw ba n C D f E Z s : Nat} {V : List UInt64} {F : Nat → Prop} (h : CntI w X p bw ba n V C D f E Z s) (hm : Mod F X Y) (hF : ∀ k, F k → k ≠ C ∧ k ≠ D ∧ w.heap.size ≤ k ∧ ¬ BM.At p bw ba k) : CntI w Y p bw ba n V C D f E Z s :=
  ⟨h.bm.mod hm (fun e => (hF _ e).2.2.2 (.inl rfl)) (fun e => (hF _ e).2.2.2 (.inr (.inl rfl))) (fun e => (hF _ e).2.2.2 (.inr (.inr rfl))), h.box.mod hm (fun e => (hF _ e).1 rfl), h.cnt.mod hm (fun e => (hF _ e).2.1 rfl), h.mod.on hm fun k e => .inr (hF k e).2.2.1, h.fs, h.sE, Nat.le_trans h.sz hm.size⟩
set_option maxHeartbeats 8000000 in
theorem countrange_calls {w : World} {p bw ba n : Nat} {V : List UInt64} (h : BM w p bw ba n V) {f c : Nat} (hfc : f + c ≤ n) :
    Pur Tryd.prog 39 #[.pointer (some ⟨p, 0, none⟩), .int .i64 f, .int .i64 c] w (.tuple #[.int .i64 (Bm.cnt (Bm.bit V) f c : Nat), .int .i64 0]) := by
  unfold Pur
  have hmx := h.ok.max
  have hb1 := below_alloc1 w (.cells #[.pointer (some ⟨p, 0, none⟩)] 32)
  have hbox : Rw (w.alloc (.cells #[.pointer (some ⟨p, 0, none⟩)] 32)) w.heap.size 32 [.pointer (some ⟨p, 0, none⟩)] := heap_new _ _ _ rfl
  obtain ⟨w1, hw1⟩ : ∃ w1, w1 = w.alloc (.cells #[.pointer (some ⟨p, 0, none⟩)] 32) := ⟨_, rfl⟩
  obtain ⟨C, hC⟩ : ∃ C, C = w.heap.size := ⟨_, rfl⟩
  rw [← hw1] at hb1 hbox
  rw [← hC] at hbox
  have hf := fits_calls (h.below hb1) (first := f) (count := c) (wf_nat (by omega)) (wf_nat (by omega))
  rw [show Bm.rangeE n f c = 0 by unfold Bm.rangeE; rw [if_neg (by omega), if_neg (by omega)]] at hf
  have HF := Lib.hid hf
  have HB1 := Lib.hid hb1
  have HBOX := Lib.hid hbox
  have HH := Lib.hid h
  have HFC := Lib.hid hfc
  have cC := hbox.cell (i := 0) rfl
  have hf0 : (0 : Int) ≤ (f : Int) := Int.natCast_nonneg f
  have hc0 : (0 : Int) ≤ (c : Int) := Int.natCast_nonneg c
  have hf1 : (f : Int) ≤ 65536 := by omega
  have hc1 : (c : Int) ≤ 65536 := by omega
  clear h hb1 hbox hf hfc hmx
  (refine callsIn_wide (n := 0).1 (callsIn_of_wp_marks Tryd.func39 rfl trivial (wpIn_wide.2 ?_) rfl); simp only [Tryd.ntmps39, List.size_toArray, List.length_cons, List.length_nil, Nat.reduceAdd, Nat.reduceSub, Array.replicate_succ, Array.replicate_zero, List.push_toArray, List.append_toArray, List.nil_append, List.cons_append])
  go_upto_region 1 with fail
  rw [← hw1, ← hC]
  have HC := Lib.hid hC
  clear hw1 hC
  go_upto_region 4 with (first | (go_at_call 74; refine HF.out.out.mono ?_; rintro e w2 ⟨rfl, hb2⟩; have HB2 := Lib.hid hb2; clear hb2) | fail)
  clear cC
  go_upto_region 5 with fail
  have hD0 : Rw (w2.alloc (.cells #[.int .i64 0] 3)) w2.heap.size 3 [.int .i64 0] := heap_new _ _ _ rfl
  have hbD := below_alloc1 w2 (.cells #[.int .i64 0] 3)
  have hsD : (w2.alloc (.cells #[.int .i64 0] 3)).heap.size = w2.heap.size + 1 := by simp
  obtain ⟨wb, hwb⟩ : ∃ wb, wb = w2.alloc (.cells #[.int .i64 0] 3) := ⟨_, rfl⟩
  obtain ⟨D, hDD⟩ : ∃ D, D = w2.heap.size := ⟨_, rfl⟩
  rw [← hwb] at hD0 hbD hsD ⊢
  rw [← hDD] at hD0 hsD ⊢
  have HD0 := Lib.hid hD0
  have HBD := Lib.hid hbD
  have HSD := Lib.hid (And.intro hDD hsD)
  clear hD0 hbD hsD hDD hwb
  go_wp2_with (first | (go_at_call 75; refine masks_calls.mono ?_; rintro e w3 ⟨A, B, rfl, hAB, hA, hB, hra, hrb, hb3⟩) | fail)
  have hw23 : wb.heap.size ≤ w3.heap.size := hb3.size
  have HAL := Lib.hid (And.intro (heap_lt hra) (heap_lt hrb))
  have hn3 : ∀ l, wb.heap.size ≤ l → l ≠ C ∧ l ≠ D ∧ w.heap.size ≤ l ∧ ¬ BM.At p bw ba l := fun l hl => by
    have h1 := heap_lt HH.out.hs
    have h2 := heap_lt HH.out.hw
    have h3 := heap_lt HH.out.ha
    have h4 := HB1.out.size
    have h5 := HB2.out.size
    have h6 := heap_lt HBOX.out
    have h7 := HSD.out
    exact ⟨by omega, by omega, by omega, by rintro (e | e | e) <;> omega⟩
  have HN3 := Lib.hid hn3
  have HDN : Hid (D ≠ C ∧ w.heap.size ≤ D ∧ ¬ BM.At p bw ba D ∧ A ≠ D ∧ B ≠ D) := Lib.hid (by
    have h1 := heap_lt HH.out.hs
    have h2 := heap_lt HH.out.hw
    have h3 := heap_lt HH.out.ha
    have h4 := HB1.out.size
    have h5 := HB2.out.size
    have h6 := heap_lt HBOX.out
    have h7 := HSD.out
    exact ⟨by omega, by omega, by rintro (e | e | e) <;> omega, by omega, by omega⟩)
  have hw3 : Mod (fun _ => False) w w3 := (((Mod.of_below HB1.out).onB HB2.out).onB HBD.out).onB hb3
  have H3 : Hid (CntI w w3 p bw ba n V C D f (f + c) w3.heap.size f) := Lib.hid ⟨HH.out.mod hw3 id id id, ((HBOX.out.below HB2.out).below HBD.out).below hb3, by rw [Nat.sub_self]; exact HD0.out.below hb3, hw3, Nat.le_refl _, by omega, Nat.le_refl _⟩
  clear hn3 hw3
  refine wp_range (a₁ := ?fr) (s0 := f) (hg := rfl) (eg := fun args w => by kernel_rfl) (hc := masks_iter (E := f + c) hra (by simpa using hrb) hAB (by have := HFC.out; have := HH.out.ok.max; omega)) (hps := fun _ => rfl) (hT := fun _ _ h => h.2)
    (hKt := fun h k => ⟨k.1.trans h.1, k.2.trans h.2⟩) (hKb := fun X l o o' hl ho hc => ⟨World.putObj_heap_other ?_, World.putObj_heap_other ?_⟩) (I := fun s W' => CntI w W' p bw ba n V C D f (f + c) w3.heap.size s) (Ix := fun _ _ => False) ?hIT ?hIxT ?hI ?hIx ?h0 ?hIv (hassign := ?assign) (hbody := ?body) (hdone := ?done) (hstop := ?stop)
  case assign =>
    intro l x X K hK
    simp only [Mk.enc]
    gi_wp2
    exact hK
  case body =>
    rintro l s x X hI ⟨hs, rfl⟩
    have hok := HH.out.ok
    have hfc := HFC.out
    have hrl := hI.bm.room_le.1
    have hk : s / 64 < Bm.room n := Bm.stop_room hs hfc
    have hlen : V.length = Bm.room n := hI.bm.ok.len
    obtain ⟨y, hy⟩ : ∃ y, V[s / 64]? = some y := ⟨_, List.getElem?_eq_getElem (by omega)⟩
    obtain ⟨z, hz⟩ : ∃ z : UInt64, z = UInt64.ofNat (y.toNat &&& Bm.maskN (f + c) s) := ⟨_, rfl⟩
    have hzn : z.toNat = y.toNat &&& Bm.maskN (f + c) s := by rw [hz]; exact Bm.toNat_of (Nat.and_lt_two_pow (n := 64) _ (Bm.maskN_lt hs))
    have hand : bits .and .u64 (y.toNat : Int) ((Bm.maskN (f + c) s : Nat) : Int) = ((z.toNat : Nat) : Int) := by
      rw [u64_and_nat _ _ y.toNat_lt (Bm.maskN_lt hs), hzn]
    have hpop : Bm.pop 64 z.toNat = Bm.cnt (Bm.bit V) s (Bm.stopN (f + c) s - s) := by rw [hzn]; exact Bm.pop_mask hs hy
    have hone := fun w1 => onescount_calls (w := w1) (x := z)
    have hsum := Bm.cnt_more (Bm.bit V) hI.fs (Nat.le_of_lt (Bm.stop_gt hs))
    have hle1 := Bm.cnt_le (Bm.bit V) f (s - f)
    have hle2 := Bm.pop_le 64 z.toNat
    rw [← hpop] at hsum
    have lC := heap_lt hI.box
    have lD := heap_lt hI.cnt
    have lp := heap_lt hI.bm.hs
    have lw := heap_lt hI.bm.hw
    have cC := hI.box.cell (i := 0) rfl
    have cD := hI.cnt.cell (i := 0) rfl
    have c1 := hI.bm.hs.cell (i := 1) rfl
    have cw := hI.bm.hw.cell (i := s / 64) (v := uv y) (by simp [hy])
    have hk1 : (((s / 64 : Nat) : Nat) : Int) < ((Bm.room n : Nat) : Int) := by exact_mod_cast hk
    have hk0 : (0 : Int) ≤ ((s / 64 : Nat) : Int) := Int.natCast_nonneg _
    have HI := Lib.hid hI
    have HS := Lib.hid hs
    have hsE : s ≤ 65536 := by have := HH.out.ok.max; omega
    obtain ⟨z1, hz1⟩ : ∃ z1, z1 = Bm.cnt (Bm.bit V) f (s - f) := ⟨_, rfl⟩
    obtain ⟨z2, hz2⟩ : ∃ z2, z2 = Bm.pop 64 z.toNat := ⟨_, rfl⟩
    rw [← hz1] at cD hsum hle1
    rw [← hz2] at hone hsum hle2
    have HSUM := Lib.hid hsum
    have hx1 : ((z1 : Nat) : Int) ≤ 65536 := by omega
    have hx2 : ((z2 : Nat) : Int) ≤ 64 := by omega
    have hx3 : (0 : Int) ≤ ((z1 : Nat) : Int) := Int.natCast_nonneg _
    have hx4 : (0 : Int) ≤ ((z2 : Nat) : Int) := Int.natCast_nonneg _
    obtain ⟨k, hkk⟩ : ∃ k, k = s / 64 := ⟨_, rfl⟩
    obtain ⟨m, hmm⟩ : ∃ m, m = Bm.maskN (f + c) s := ⟨_, rfl⟩
    rw [← hkk] at hk1 hk0 cw ⊢
    rw [← hmm] at hand ⊢
    have fD := hI.cnt.frozen 0
    clear hok hfc hrl hk hlen hy hI hs hkk hmm hra hrb hb3 hz hzn hpop hsum hle1 hle2 hz1 hz2 hsE
    gi_wp2_with fail
    refine wpIn_region_R_tail (Below X.heap.size X) 12 (by kernel_rfl) (by kernel_rfl) (by kernel_rfl) (fun ⟨_, _, h⟩ => h) (Below.drew (Below.refl _ _)) ?_
    (repeat (first | (apply wpR_pass rfl; (try simp only [Act.put, List.setIfInBounds_toArray, List.set_cons_succ, List.set_cons_zero])) | (apply wpR_val rfl; (focus (intro w1 hR; obtain ⟨hc, hf⟩ := bcellB hR; (try go_simp); (try exact Eq.refl _); done)); (try simp only [Act.put, List.setIfInBounds_toArray, List.set_cons_succ, List.set_cons_zero])) | (apply wpR_call rfl; (focus (intro w1 hR; obtain ⟨hc, hf⟩ := bcellB hR; (try go_simp); (try exact And.intro rfl rfl); done)); (focus (intro w1 hR; first | exact (hone _).at_ (by first | omega | (simp; done) | (simp; omega)) hR)); (try simp only [Act.put, List.setIfInBounds_toArray, List.set_cons_succ, List.set_cons_zero])) | (apply wpR_val_want rfl; (focus (intro w1 hR; obtain ⟨hc, hf⟩ := bcellB hR; (try go_simp); (try exact Eq.refl _); done)); (try simp only [Act.put, List.setIfInBounds_toArray, List.set_cons_succ, List.set_cons_zero])) | (apply wpR_call_want rfl; (focus (intro w1 hR; obtain ⟨hc, hf⟩ := bcellB hR; (try go_simp); (try exact And.intro rfl rfl); done)); (focus (intro w1 hR; first | exact (hone _).at_ (by first | omega | (simp; done) | (simp; omega)) hR)); (try simp only [Act.put, List.setIfInBounds_toArray, List.set_cons_succ, List.set_cons_zero]))))
    refine wpR_nil ?_
    intro w4 hb4
    have hD4 := HI.out.cnt.below hb4
    have cD4 := hD4.cell (i := 0) rfl
    have fD4 := hD4.frozen 0
    have HB4 := Lib.hid hb4
    have HD4 := Lib.hid hD4
    clear hb4 hand cw c1 cC cD hD4 fD
    go_wp2_with fail
    have h0 : CntI w w4 p bw ba n V C D f (f + c) w3.heap.size s := HI.out.step (F := fun _ => False) (Mod.of_below HB4.out) fun _ e => e.elim
    have hm5 : Mod (fun k => k = D) w4 (w4.setCell ⟨D, 0, none⟩ (.int .i64 ((z1 : Int) + (z2 : Int)))) := Mod.setCell _ _ _ _ rfl
    have hdn := HDN.out
    have hsum := HSUM.out
    have hAl := HAL.out
    have hsz := h0.sz
    have hX : Mod (fun k => k = D) X (w4.setCell ⟨D, 0, none⟩ (.int .i64 ((z1 : Int) + (z2 : Int)))) := (Mod.of_below HB4.out).trans hm5
    have hset := h0.cnt.set 0 (.int .i64 ((z1 : Int) + (z2 : Int)))
    have hszX := HI.out.sz
    exact ⟨KeepsOthers.of_mod hX (fun j e => by subst e; exact ⟨_, _, _, HI.out.cnt⟩), ⟨hX.block A (by omega) hdn.2.2.2.1, hX.block B (by omega) hdn.2.2.2.2⟩, _, rfl,
      ⟨h0.bm.mod hm5 (fun e => hdn.2.2.1 (.inl e.symm)) (fun e => hdn.2.2.1 (.inr (.inl e.symm))) (fun e => hdn.2.2.1 (.inr (.inr e.symm))), h0.box.mod hm5 (fun e => hdn.1 e.symm),
        by rw [← hsum]; exact hset, h0.mod.on hm5 (fun k e => .inr (by subst e; exact hdn.2.1)), Nat.le_trans h0.fs (Nat.le_of_lt (Bm.stop_gt HS.out)), Bm.stop_le.1, Nat.le_trans hsz hm5.size⟩⟩
  case hIT =>
    rintro s X Y h ht
    exact h.step ht.1 fun k e => by subst e; exact HN3.out _ hA
  case hIxT => exact fun _ _ _ h _ => h
  case hI =>
    intro s X l o o' h hl ho hc
    exact h.step (mod_putObj _ _ _) fun k e => by subst e; exact HN3.out _ (Nat.le_trans hw23 hl)
  case hIx => exact fun _ _ _ _ _ h _ _ _ => h
  case h0 =>
    intro W1 hb
    exact H3.out.step (F := fun _ => False) (Mod.of_below hb) fun _ e => e.elim
  case hIv => exact fun _ _ _ => trivial
  case done =>
    intro Dd s X hD hI hfin hdef
    have hse : s = f + c := by have := hI.sE; omega
    subst hse
    have cD := hI.cnt.cell (i := 0) rfl
    rw [show f + c - f = c by omega] at cD
    have HI := Lib.hid hI
    have HD := Lib.hid hdef
    clear hI hdef hfin hra hrb hb3
    go_wp2_with fail
    refine ⟨by simp, .inl ⟨_, _, rfl, run_takeDeferred HD.out, ?_⟩⟩
    have hf : CntI w (X.putObj Dd (.deferred none)) p bw ba n V C D f (f + c) w3.heap.size (f + c) := HI.out.step (mod_putObj _ _ _) fun k e => by subst e; exact HN3.out _ (Nat.le_trans hw23 hD)
    exact ⟨_, results_tmp2 rfl _ _ _, rfl, hf.mod.below (Nat.le_refl _) fun _ e => e.elim⟩
  case stop => exact fun _ _ _ _ h _ => h.elim
  all_goals (intro e; have := HAL.out; omega)
end Go.Proofs.YtckbckdaffdjmaaDoor

/- The law's own functions: num, ones, listed. -/
namespace Go.Proofs.YtckbckdaffdjmaaDoor
open Go.RowKit
set_option maxRecDepth 100000
set_option linter.unusedVariables false
set_option linter.unusedSimpArgs false

theorem num_calls {w : World} (e : Int) : Pur Tryd.prog 33 #[.int .i64 e] w (.int .i64 e) := by
  unfold Pur
  go_enter Tryd.func33, Tryd.ntmps33
  go_wp2_with fail
  go_ret
  exact ⟨rfl, Below.refl _ _⟩
namespace Bm
theorem drop_low {x : Nat} (h0 : x ≠ 0) (hx : x < 18446744073709551616) : pop 64 (x &&& (x - 1)) + 1 = pop 64 x ∧ x &&& (x - 1) < 18446744073709551616 := by
  refine ⟨?_, Nat.lt_of_le_of_lt Nat.and_le_left hx⟩
  obtain ⟨m, hm, hk⟩ := Lib.ctzFrom_spec 64 x (by omega) hx
  generalize Lib.ctzFrom 64 x = k at *
  have hp := Nat.two_pow_pos k
  have h1 : x = 2 ^ k * (2 * m + 1) + 0 := by omega
  have h2 : x - 1 = 2 ^ k * (2 * m) + (2 ^ k - 1) := by rw [hm, Nat.mul_add]; omega
  have b1 : ∀ t, x.testBit t = if t < k then false else (2 * m + 1).testBit (t - k) := fun t => by rw [h1, Nat.testBit_two_pow_mul_add _ hp]; simp
  have b2 : ∀ t, (x - 1).testBit t = if t < k then (2 ^ k - 1).testBit t else (2 * m).testBit (t - k) := fun t => by rw [h2, Nat.testBit_two_pow_mul_add _ (by omega)]
  have b3 : ∀ t, t ≠ k → (x &&& (x - 1)).testBit t = x.testBit t := fun t ht => by
    rw [Nat.testBit_and, b1, b2]
    by_cases e : t < k
    · simp [e]
    · obtain ⟨d, hd⟩ : ∃ d, t - k = d + 1 := ⟨t - k - 1, by omega⟩
      rw [if_neg e, if_neg e, hd, Nat.testBit_succ, Nat.testBit_succ, show (2 * m + 1) / 2 = m by omega, show 2 * m / 2 = m by omega, Bool.and_self]
  have b4 : (x &&& (x - 1)).testBit k = false := by rw [Nat.testBit_and, b2, if_neg (by omega), Nat.sub_self, Nat.testBit_zero]; simp
  have b5 : x.testBit k = true := by rw [b1, if_neg (by omega), Nat.sub_self, Nat.testBit_zero]; simp
  rw [pop_cnt, pop_cnt, cnt_split _ (a := k) (c := 1) (m := 64) (by omega), cnt_split x.testBit (a := k) (c := 1) (m := 64) (by omega)]
  rw [cnt_congr (f := (x &&& (x - 1)).testBit) (g := x.testBit) (a := 0) (b := 0) k (fun t ht => b3 _ (by omega)), cnt_congr (f := (x &&& (x - 1)).testBit) (g := x.testBit) (a := k + 1) (b := k + 1) _ (fun t ht => b3 _ (by omega))]
  have c1 : cnt (x &&& (x - 1)).testBit k 1 = 0 := by rw [cnt, cnt, Nat.add_zero, b4]; rfl
  have c2 : cnt x.testBit k 1 = 1 := by rw [cnt, cnt, Nat.add_zero, b5]; rfl
  rw [c1, c2]; omega
end Bm
theorem pop_zero : Bm.pop 64 0 = 0 := by rw [Bm.pop_cnt]; exact Bm.cnt_none 64 fun t _ => Nat.zero_testBit _
/-- How many ones there are, hidden from what would reckon it. -/
def popU (x : Nat) : Nat := Bm.pop 64 x
theorem popU_le (x : Nat) : popU x ≤ 64 := Bm.pop_le 64 x
theorem popU_zero : popU 0 = 0 := pop_zero
theorem popU_drop {x : Nat} (h0 : x ≠ 0) (hx : x < 18446744073709551616) : popU (x &&& (x - 1)) + 1 = popU x ∧ x &&& (x - 1) < 18446744073709551616 := Bm.drop_low h0 hx
set_option maxHeartbeats 4000000 in
theorem ones_calls {w : World} {x : Nat} (hx : x < 18446744073709551616) : Pur Tryd.prog 70 #[.int .u64 x] w (.int .i64 (popU x : Nat)) := by
  unfold Pur
  have hle := popU_le x
  obtain ⟨Z, hZ⟩ : ∃ Z, Z = popU x := ⟨_, rfl⟩
  rw [← hZ] at hle ⊢
  have HZ := Lib.hid hZ
  have HX := Lib.hid hx
  clear hZ hx
  go_enter Tryd.func70, Tryd.ntmps70
  go_wp2_with fail
  refine wp_loop_ghost (fun q a w' => ∃ y c : Nat, q = popU y ∧ Is (fun U => ⟨#[.int .u64 (y : Int), U 1, U 2, .int .i64 (c : Int), U 4, U 5, U 6, U 7, U 8, U 9, U 10, U 11, U 12], []⟩) a ∧ Below w.heap.size w w' ∧ c + q = Z ∧ y < 18446744073709551616) Z ⟨x, 0, HZ.out, isU (fun U => ⟨#[.int .u64 (x : Int), U 1, U 2, .int .i64 0, U 4, U 5, U 6, U 7, U 8, U 9, U 10, U 11, U 12], []⟩) rfl, Below.refl _ _, Nat.zero_add _, HX.out⟩ ?_
  rintro q a w' ⟨y, c, hq, hU, hb, hs, hy⟩
  obtain ⟨U, rfl⟩ := hU.out
  have HB := Lib.hid hb
  have HS := Lib.hid hs
  have HQ := Lib.hid hq
  have hc9 : (c : Int) ≤ 64 := by omega
  have hc0 : (0 : Int) ≤ (c : Int) := Int.natCast_nonneg c
  clear hq
  by_cases h0 : y = 0
  · have hy0 : ((y : Int) != 0) = false := by rw [h0]; rfl
    have H0 : Hid (c = Z) := Lib.hid (by have := HQ.out; rw [h0, popU_zero] at this; omega)
    clear hU hb hs h0 hy
    go_wp2_with fail
    go_ret
    exact ⟨congrArg (fun z : Nat => Ending.returned (.int .i64 (z : Int))) H0.out, HB.out⟩
  · have hy0 : ((y : Int) != 0) = true := bne_iff_ne.2 fun e => h0 (Int.ofNat_inj.1 e)
    have hd := popU_drop h0 hy
    have hw : IntKind.u64.wrap ((y : Int) - 1) = ((y - 1 : Nat) : Int) := by rw [show (y : Int) - 1 = ((y - 1 : Nat) : Int) by omega]; exact wrap_nat (by omega)
    have ha := u64_and_nat y (y - 1) hy (by omega)
    rw [← HQ.out] at hd
    have HD := Lib.hid hd
    generalize y &&& (y - 1) = v at *
    obtain ⟨u, hu⟩ : ∃ u, u = y - 1 := ⟨_, rfl⟩
    rw [← hu] at hw ha
    clear hU hb hs h0 hy hd hu hle
    go_wp2_with fail
    have h1 := HD.out.1
    have h2 := HS.out
    exact ⟨popU v, by omega, v, c + 1, rfl, isU (fun U => ⟨#[.int .u64 (v : Int), U 1, U 2, .int .i64 (c + 1 : Nat), U 4, U 5, U 6, U 7, U 8, U 9, U 10, U 11, U 12], []⟩) rfl, HB.out, by omega, HD.out.2⟩
end Go.Proofs.YtckbckdaffdjmaaDoor

/- Rows of lists of words that grow; a word behind a list of the call's own. -/
namespace Go.Proofs.YtckbckdaffdjmaaDoor
open Go.RowKit
set_option maxRecDepth 100000
set_option linter.unusedVariables false
set_option linter.unusedSimpArgs false

theorem ls_tu : Tryd.prog.underlying 29 = some (.slice 22) := by kernel_rfl
theorem ls_ti : (Tryd.prog.info? 22).map (fun i => (i.zero, i.size, i.bytes)) = some (some (.slice none 0 0), 1, 24) := by kernel_rfl
theorem ls_info : ∃ i, Tryd.prog.info? 22 = some i ∧ i.zero = some (.slice none 0 0) ∧ i.size = 1 ∧ i.bytes = 24 := by
  have h := ls_ti
  cases hi : Tryd.prog.info? 22 with
  | none => rw [hi] at h; cases h
  | some i =>
    rw [hi] at h
    simp only [Option.map_some, Option.some.injEq, Prod.mk.injEq] at h
    exact ⟨i, rfl, h⟩
/-- A row of the call's own that holds slices. -/
def VU (B : Nat) (w : World) (v : Value) (vs : List Value) : Prop := w.ownsRow B 22 1 v vs.length vs
section
variable {w w' w1 w2 : World} {B : Nat} {v x : Value} {vs : List Value}
theorem VU.nil_ : VU B w (.slice none 0 0) [] := World.ownsRow_nil w B _ 1
theorem VU.lt (h : VU B w v vs) : ∀ k, v.ownBlock = some k → B ≤ k ∧ k < w.heap.size := World.ownsRow.lt h
theorem VU.at_ (h : VU B w v vs) (he : ∀ g, v.ownBlock = some g → w'.heap[g]? = w.heap[g]?) : VU B w' v vs := by
  obtain ⟨h0, ⟨e1, e2⟩ | ⟨g, cap, cur, e, hB, hg, hr⟩⟩ := h
  · exact ⟨h0, .inl ⟨e1, e2⟩⟩
  · exact ⟨h0, .inr ⟨g, cap, cur, e, hB, (he g (by rw [e]; rfl)).trans hg, hr⟩⟩
/-- The row's form where it holds something. -/
theorem VU.get (h : VU B w v vs) {i : Nat} {u : Value} (hu : vs[i]? = some u) : ∃ g cap, v = .slice (some ⟨g, 0, none⟩) vs.length cap ∧ g < w.heap.size ∧ w.cell? ⟨g, i, none⟩ = some u := by
  have hi : i < vs.length := (List.getElem?_eq_some_iff.1 hu).1
  obtain ⟨h0, ⟨e1, e2⟩ | ⟨g, cap, cur, e, hB, hg, hr⟩⟩ := h
  · omega
  · have hc := World.ownsRow.cells (w := w) (base := B) (e := 22) (size := 1) (v := v) (n := vs.length) (xs := vs) ⟨h0, .inr ⟨g, cap, cur, e, hB, hg, hr⟩⟩ (g := g) (by rw [e]; rfl) i u hu
    rw [add_flat, Nat.zero_add] at hc
    exact ⟨g, cap, e, heap_lt hg, hc⟩
theorem VU.form (h : VU B w v vs) : ∃ p cap, v = .slice p vs.length cap := by
  obtain ⟨h0, ⟨e1, e2⟩ | ⟨g, cap, cur, e, hr⟩⟩ := h
  · exact ⟨none, 0, by rw [e1, e2]⟩
  · exact ⟨_, cap, e⟩
theorem VU.append (h : VU B w v vs) {a : Nat} (hx : w.cell? ⟨a, 0, none⟩ = some x) (h1 : x.oneCell' = true) (hlen : vs.length + 1 ≤ 5864062014805) (hB : B ≤ w.heap.size) :
    ∃ v' w', (Builtin.append_ #[29, 29] 29 #[v, .slice (some ⟨a, 0, none⟩) 1 1]).run Tryd.prog w = .ok v' w' ∧ VU B w' v' (vs ++ [x]) ∧ w.grownBy w' v.ownBlock ∧ (v'.ownBlock = v.ownBlock ∨ v'.ownBlock = some w.heap.size) := by
  obtain ⟨i, hi, hz, hs, hb⟩ := ls_info
  have hm : maxLen = 9223372036854775807 := rfl
  obtain ⟨v', w', h1', h2', h3', -, h5'⟩ := run_append_own_at (P := Tryd.prog) w B 29 29 22 i (.slice none 0 0) 1 24 ls_tu hi hz hs hb rfl (by decide) v vs.length vs h ⟨a, 0, none⟩ 1 1 [x] rfl
    (fun j u hj => by
      match j, hj with
      | 0, hj =>
        simp at hj
        subst hj
        rw [add_flat]
        exact hx) (fun u hu => by simp at hu; subst hu; exact h1) (by rw [hm]; omega) (by omega) hB
  exact ⟨v', w', h1', by unfold VU; rw [List.length_append]; exact h2', h3', h5'⟩
theorem VU.one (h : VU B w x vs) : x.oneCell' = true := by
  obtain ⟨p, c, e⟩ := h.form
  rw [e]; rfl
theorem VU.grown {y : Option Nat} (h : VU B w x vs) (hg : w.grownBy w' y) (hne : ∀ k, x.ownBlock = some k → y ≠ some k) : VU B w' x vs := h.at_ fun k e => hg.block k (h.lt k e).2 (fun e' => hne k e e'.symm)
theorem VU.mod {F : Nat → Prop} (h : VU B w x vs) (hm : Mod F w w') (hf : ∀ g, x.ownBlock = some g → ¬ F g) : VU B w' x vs := h.at_ fun g e => hm.block g (h.lt g e).2 (hf g e)
end
theorem OU.mod {F : Nat → Prop} {w w' : World} {B : Nat} {x : Value} {l : List UInt64} (h : OU B w x l) (hm : Mod F w w') (hf : ∀ g, x.ownBlock = some g → ¬ F g) : OU B w' x l := h.at_ fun g e => hm.block g (h.lt g e).2 (hf g e)
theorem Mod.grown {F : Nat → Prop} {w w' : World} {y : Option Nat} (h : w.grownBy w' y) (hy : ∀ k, y = some k → k < w.heap.size → F k) : Mod F w w' :=
  ⟨h.os, h.tape, h.output, h.size, fun k hk hf => h.block k hk (fun e => hf (hy k e.symm hk))⟩
/-- append of one byte to a row of the call's own: what the old row held it holds. -/
theorem run_append_word {w : World} {B : Nat} {v x : Value} {l : List UInt64} {b : UInt64} (h : OU B w v l) (hr : RU w x [b]) (hlen : l.length + 1 ≤ 17592186044416) (hB : B ≤ w.heap.size) :
    ∃ v' w', (Builtin.append_ #[22, 22] 22 #[v, x]).run Tryd.prog w = .ok v' w' ∧ OU B w' v' (l ++ [b]) ∧ w.grownBy w' v.ownBlock ∧ (v'.ownBlock = v.ownBlock ∨ v'.ownBlock = some w.heap.size) ∧
      ∀ g i, v.ownBlock = some g → i < l.length → w'.cell? ⟨g, i, none⟩ = w.cell? ⟨g, i, none⟩ := by
  obtain ⟨v', w', hrun, h1, h2, h3⟩ := run_append_OU h hr hlen hB
  refine ⟨v', w', hrun, h1, h2, h3, fun g i hg hi => ?_⟩
  obtain ⟨inf, hi', hz⟩ := uy_info
  obtain ⟨p, c, rfl, k1, k2, k3, hc⟩ := hr
  obtain ⟨ga, oa, rfl, hga, hca⟩ := hc 0 b rfl
  have hnews : ∀ j u, [uv b][j]? = some u → w.cell? ((⟨ga, oa, none⟩ : Addr).add j) = some u := fun j u hj => by
    match j, hj with
    | 0, hj =>
      simp at hj
      subst hj
      rw [add_flat]
      exact hca
  obtain ⟨⟨h0, ⟨e1, e2⟩ | ⟨g', cap, cur, e, hBg, hgg, hn, hcm, hcs, htk⟩⟩, hl⟩ := h
  · rw [e1] at hg; cases hg
  · subst e
    have hgeq : g' = g := by have : some g' = some g := hg; injection this
    subst hgeq
    rw [Nat.mul_one] at hcs
    by_cases hroom : l.length + 1 ≤ cap
    · have hrm := run_append_room (P := Tryd.prog) w 22 22 58 inf uy_tu hi' g' l.length cap cur hgg ⟨ga, oa, none⟩ 1 c [uv b] (by rw [hz.2.1]; rfl) hnews (fun u hu => by simp at hu; subst hu; rfl) hroom (by rw [hz.2.1, Nat.mul_one, hcs]; exact hroom)
      have hrun' := hrun
      rw [show [b].length = 1 from rfl, hrm] at hrun'
      injection hrun' with _ hw
      rw [← hw, has_cell (setRow_heap w g' cur _ _ _ hgg), has_cell hgg]
      rw [hz.2.1, Nat.mul_one]
      have hcl : cur.toList.length = cap := by simpa using hcs
      rw [List.getElem?_toArray, List.append_assoc, List.getElem?_append_left (by rw [List.length_take]; omega), List.getElem?_take, if_pos hi]
      simp
    · have hgw := run_append_grow (P := Tryd.prog) w 22 22 58 inf (.int .u64 0) uy_tu hi' hz.1 ⟨g', 0, none⟩ l.length cap (l.map uv) (by rw [hz.2.1]; simp) (fun j u hj => by
          have := World.ownsRow.cells (w := w) (base := B) (e := 58) (size := 1) (n := l.length) (xs := l.map uv) ⟨h0, .inr ⟨g', cap, cur, rfl, hBg, hgg, hn, hcm, by rw [Nat.mul_one]; exact hcs, htk⟩⟩ (g := g') rfl j u hj
          exact this) ⟨ga, oa, none⟩ 1 c [uv b] (by rw [hz.2.1]; rfl) hnews (by omega) (by omega) (growslice_fits (by omega) (by rw [hz.2.2]; omega))
      have hrun' := hrun
      rw [show [b].length = 1 from rfl, hgw] at hrun'
      injection hrun' with _ hw
      rw [← hw]
      exact World.cell?_of_block (heap_alloc_old w.drew _ (heap_lt hgg))
set_option maxRecDepth 100000 in
theorem wpList_append_word {w : World} {ops : Array Oper} {rest : List Oper} {o : Oper} {a : Act} {Q : Exit → Act → World → Prop} (hgd : o.guard = none) (s x : Operand)
    (ho : o.op = .call { callee := .builtin .append, args := #[s, x], argTypes := #[22, 22] }) (hty : o.type = 22) {B : Nat} {v xv : Value} {l : List UInt64} {b : UInt64}
    (hs : a.eval s = v) (hx : a.eval x = xv) (h : OU B w v l) (hr : RU w xv [b]) (hlen : l.length + 1 ≤ 17592186044416) (hB : B ≤ w.heap.size)
    (hk : ∀ v' w', OU B w' v' (l ++ [b]) → w.grownBy w' v.ownBlock → (v'.ownBlock = v.ownBlock ∨ v'.ownBlock = some w.heap.size) → (∀ g i, v.ownBlock = some g → i < l.length → w'.cell? ⟨g, i, none⟩ = w.cell? ⟨g, i, none⟩) → wpList Tryd.prog ops Q rest (a.put o.dst v') w') : wpList Tryd.prog ops Q (o :: rest) a w := by
  refine wpList_plain hgd fun K hK => ?_
  obtain ⟨v', w', hrun, h2, h3, h4, h5⟩ := run_append_word h hr hlen hB
  unfold Oper.wp execOp
  simp only [ho, hty, resolve, invoke, builtin, Sem.run_bind, Sem.run_pure, Result.andThen_ok, List.map_toArray, List.map_cons, List.map_nil, hs, hx, hrun]
  exact hK _ _ (hk v' w' h2 h3 h4 h5)
/-- append to a row of lists, at the operation. -/
theorem wpList_append_VU {w : World} {ops : Array Oper} {rest : List Oper} {o : Oper} {a : Act} {Q : Exit → Act → World → Prop} (hgd : o.guard = none) (s x : Operand)
    (ho : o.op = .call { callee := .builtin .append, args := #[s, x], argTypes := #[29, 29] }) (hty : o.type = 29) {B : Nat} {v u : Value} {vs : List Value} (ad : Nat)
    (hs : a.eval s = v) (hx : a.eval x = .slice (some ⟨ad, 0, none⟩) 1 1) (h : VU B w v vs) (hc : w.cell? ⟨ad, 0, none⟩ = some u) (h1 : u.oneCell' = true) (hlen : vs.length + 1 ≤ 5864062014805) (hB : B ≤ w.heap.size)
    (hk : ∀ v' w', VU B w' v' (vs ++ [u]) → w.grownBy w' v.ownBlock → (v'.ownBlock = v.ownBlock ∨ v'.ownBlock = some w.heap.size) → wpList Tryd.prog ops Q rest (a.put o.dst v') w') : wpList Tryd.prog ops Q (o :: rest) a w := by
  refine wpList_plain hgd fun K hK => ?_
  obtain ⟨v', w', hrun, h2, h3, h4⟩ := h.append hc h1 hlen hB
  unfold Oper.wp execOp
  simp only [ho, hty, resolve, invoke, builtin, Sem.run_bind, Sem.run_pure, Result.andThen_ok, List.map_toArray, List.map_cons, List.map_nil, hs, hx, hrun]
  exact hK _ _ (hk v' w' h2 h3 h4)
theorem grown_setCell (w : World) (b o : Nat) (v : Value) : w.grownBy (w.setCell ⟨b, o, none⟩ v) (some b) := by
  have h := Mod.setCell (F := fun k => k = b) w b o v rfl
  exact ⟨h.os, h.tape, h.output, h.size, fun k hk hne => h.block k hk (fun e => hne (by rw [e]))⟩
/-- A word laid into a list of the call's own. -/
theorem OU.store {B : Nat} {w : World} {q : Option Addr} {n c : Nat} {l : List UInt64} (h : OU B w (.slice q n c) l) {i : Nat} (hi : i < l.length) (y : UInt64) :
    ∃ g z, q = some ⟨g, 0, none⟩ ∧ g < w.heap.size ∧ w.cell? ⟨g, i, none⟩ = some (uv z) ∧ w.frozen? ⟨g, i, none⟩ = false ∧ OU B (w.setCell ⟨g, i, none⟩ (uv y)) (.slice q n c) (l.set i y) ∧ w.grownBy (w.setCell ⟨g, i, none⟩ (uv y)) (some g) := by
  obtain ⟨⟨h0, ⟨e, hn⟩ | ⟨g, cap, cur, e, hB, hg, hn, hc, hs, ht⟩⟩, hl⟩ := h
  · omega
  · simp only [Value.slice.injEq] at e
    obtain ⟨rfl, rfl, rfl⟩ := e
    rw [Nat.mul_one] at hs ht
    have hrw : Rw w g 58 cur.toList := by simpa using hg
    have hcell : (cur.toList)[i]? = some (uv (l[i])) := by
      have h1 : (cur.toList.take l.length)[i]? = some (uv (l[i])) := by rw [ht]; simp [hi]
      rwa [List.getElem?_take, if_pos hi] at h1
    refine ⟨g, l[i], rfl, heap_lt hg, hrw.cell hcell, hrw.frozen i, ⟨⟨by simp, .inr ⟨g, c, (cur.toList.set i (uv y)).toArray, by rw [List.length_set], hB, hrw.set i (uv y), by rw [List.length_set]; exact hn, hc, by rw [Nat.mul_one]; simpa using hs, ?_⟩⟩, by rw [List.length_set]; exact hl⟩, (grown_setCell w g i (uv y))⟩
    rw [Nat.mul_one, List.length_set, List.map_set, ← ht]
    show (cur.toList.set i (uv y)).take l.length = _
    rw [List.take_set]
end Go.Proofs.YtckbckdaffdjmaaDoor

/- The Book of chapter 3: lists that were handed out or in; keep, where it writes at once. -/
namespace Go.Proofs.YtckbckdaffdjmaaDoor
open Go.RowKit
set_option maxRecDepth 100000
set_option linter.unusedVariables false
set_option linter.unusedSimpArgs false

/-- The mark of list i. -/
def mkN (i : Nat) : UInt64 := UInt64.ofNat (11529215046068469761 + (i - i % 2))
/-- A Book lies at b; its blocks bear tags: itself 1, its rows 2, 3, 4, copies 8, what was written full 9, list i as it came 10 + i. -/
structure Bk3 (w : World) (b : Nat) (own : Nat → Nat) (late : Bool) (cur : Nat) (v0 v2 v3 : Value) (K0 K2 K3 : List Value) (Ws : List (List UInt64)) : Prop where
  blk : Rw w b 31 [v0, .bool late, v2, v3]
  r0 : VU 0 w v0 K0
  r2 : VU 0 w v2 K2
  r3 : VU 0 w v3 K3
  tb : own b = 1
  t0 : ∀ g, v0.ownBlock = some g → own g = 2
  t2 : ∀ g, v2.ownBlock = some g → own g = 3
  t3 : ∀ g, v3.ownBlock = some g → own g = 4
  even : K0.length % 2 = 0
  marked : ∀ (i : Nat) (v : Value), K0[i]? = some v → ∃ n, RU w v (List.replicate n (mkN i)) ∧ ∀ g, v.ownBlock = some g → g < w.heap.size ∧ own g = 9
  l2 : K2.length = Ws.length
  l3 : K3.length = Ws.length
  raw : ∀ (i : Nat) (v : Value) (l : List UInt64), cur ≤ i → K2[i]? = some v → Ws[i]? = some l → OU 0 w v l ∧ l.length + 80 ≤ 17592186044416 ∧ ∀ g, v.ownBlock = some g → own g = 10 + i
  was : ∀ (i : Nat) (v : Value) (l : List UInt64), cur ≤ i → K3[i]? = some v → Ws[i]? = some l → RU w v l ∧ ∀ g, v.ownBlock = some g → g < w.heap.size ∧ own g = 8
  hi : ∀ k, w.heap.size ≤ k → own k = 0
def Bkk (w : World) (b : Nat) (own : Nat → Nat) (late : Bool) (cur N0 N2 : Nat) : Prop := ∃ v0 v2 v3 K0 K2 K3 Ws, Bk3 w b own late cur v0 v2 v3 K0 K2 K3 Ws ∧ K0.length = N0 ∧ K2.length = N2
theorem Bk3.mod {w w' : World} {b : Nat} {own : Nat → Nat} {late : Bool} {cur : Nat} {v0 v2 v3 : Value} {K0 K2 K3 : List Value} {Ws : List (List UInt64)} {F : Nat → Prop}
    (h : Bk3 w b own late cur v0 v2 v3 K0 K2 K3 Ws) (hm : Mod F w w') (hF : ∀ k, k < w.heap.size → F k → own k = 0) : Bk3 w' b own late cur v0 v2 v3 K0 K2 K3 Ws := by
  have nf : ∀ k, k < w.heap.size → own k ≠ 0 → ¬ F k := fun k hk hn e => hn (hF k hk e)
  refine ⟨h.blk.mod hm (nf _ (heap_lt h.blk) (by rw [h.tb]; decide)), h.r0.mod hm (fun g e => nf g (h.r0.lt g e).2 (by rw [h.t0 g e]; decide)), h.r2.mod hm (fun g e => nf g (h.r2.lt g e).2 (by rw [h.t2 g e]; decide)),
    h.r3.mod hm (fun g e => nf g (h.r3.lt g e).2 (by rw [h.t3 g e]; decide)), h.tb, h.t0, h.t2, h.t3, h.even, fun i v hv => ?_, h.l2, h.l3, fun i v l hi hv hl => ?_, fun i v l hi hv hl => ?_, fun k hk => h.hi k (Nat.le_trans hm.size hk)⟩
  · obtain ⟨n, h1, h2⟩ := h.marked i v hv
    exact ⟨n, h1.mod hm (fun _ g e => nf g (h2 g e).1 (by rw [(h2 g e).2]; decide)), fun g e => ⟨Nat.lt_of_lt_of_le (h2 g e).1 hm.size, (h2 g e).2⟩⟩
  · obtain ⟨h1, h2, h3⟩ := h.raw i v l hi hv hl
    exact ⟨h1.mod hm (fun g e => nf g (h1.lt g e).2 (by rw [h3 g e]; omega)), h2, h3⟩
  · obtain ⟨h1, h2⟩ := h.was i v l hi hv hl
    exact ⟨h1.mod hm (fun _ g e => nf g (h2 g e).1 (by rw [(h2 g e).2]; decide)), fun g e => ⟨Nat.lt_of_lt_of_le (h2 g e).1 hm.size, (h2 g e).2⟩⟩
theorem Bkk.mod {w w' : World} {b : Nat} {own : Nat → Nat} {late : Bool} {cur N0 N2 : Nat} {F : Nat → Prop} (h : Bkk w b own late cur N0 N2) (hm : Mod F w w') (hF : ∀ k, k < w.heap.size → F k → own k = 0) : Bkk w' b own late cur N0 N2 := by
  obtain ⟨v0, v2, v3, K0, K2, K3, Ws, h1, h2, h3⟩ := h
  exact ⟨v0, v2, v3, K0, K2, K3, Ws, h1.mod hm hF, h2, h3⟩
theorem Bkk.below {w w' : World} {b : Nat} {own : Nat → Nat} {late : Bool} {cur N0 N2 : Nat} (h : Bkk w b own late cur N0 N2) (hb : Below w.heap.size w w') : Bkk w' b own late cur N0 N2 :=
  h.mod (F := fun _ => False) (Mod.of_below hb) (fun _ _ e => e.elim)
/-- A new Book. -/
theorem Bkk.new {w : World} {b : Nat} {late : Bool} (h : Rw w b 31 [.slice none 0 0, .bool late, .slice none 0 0, .slice none 0 0]) : Bkk w b (fun k => if k = b then 1 else 0) late 0 0 0 :=
  ⟨_, _, _, [], [], [], [], ⟨h, VU.nil_, VU.nil_, VU.nil_, by simp, fun g e => (by cases e), fun g e => (by cases e), fun g e => (by cases e), rfl, fun i v e => (by simp at e), rfl, rfl, fun i v l _ e => (by simp at e), fun i v l _ e => (by simp at e), fun k hk => by have := heap_lt h; rw [if_neg (by omega)]⟩, rfl, rfl⟩
/-- Two lists more, written full. -/
theorem Bk3.full {w w' : World} {b : Nat} {own : Nat → Nat} {cur : Nat} {v0 v2 v3 v0' x y : Value} {K0 K2 K3 : List Value} {Ws : List (List UInt64)} {n : Nat}
    (h : Bk3 w b own false cur v0 v2 v3 K0 K2 K3 Ws) (hx : ∀ g, x.ownBlock = some g → g < w.heap.size ∧ (own g = 0 ∨ own g = 10 + cur))
    (hm : Mod (fun k => k = b ∨ v0.ownBlock = some k ∨ x.ownBlock = some k) w w') (hblk : Rw w' b 31 [v0', .bool false, v2, v3]) (hr : VU 0 w' v0' (K0 ++ [x, y]))
    (h0 : v0'.ownBlock = v0.ownBlock ∨ ∃ g, v0'.ownBlock = some g ∧ w.heap.size ≤ g ∧ y.ownBlock ≠ some g) (hrx : RU w' x (List.replicate n (mkN K0.length))) (hy : OU 0 w' y (List.replicate (n + 80) (mkN K0.length)))
    (hyb : y.ownBlock = x.ownBlock ∨ ∃ g, y.ownBlock = some g ∧ w.heap.size ≤ g) :
    ∃ own', Bk3 w' b own' false (cur + 1) v0' v2 v3 (K0 ++ [x, y]) K2 K3 Ws ∧ (∀ k, k < w.heap.size → own' k = if x.ownBlock = some k then 9 else own k) := by
  have hlow : ∀ k, k < w.heap.size → (if y.ownBlock = some k ∨ x.ownBlock = some k then 9 else if v0'.ownBlock = some k then 2 else if k < w.heap.size then own k else 0) = if x.ownBlock = some k then 9 else own k := fun k hk => by
    by_cases ex : x.ownBlock = some k
    · rw [if_pos (.inr ex), if_pos ex]
    · have ey : y.ownBlock ≠ some k := fun e => by
        rcases hyb with e1 | ⟨g, e1, hg⟩
        · exact ex (e1 ▸ e)
        · rw [e1] at e; injection e with e; omega
      rw [if_neg (by intro e; exact e.elim ey ex), if_neg ex]
      by_cases e0 : v0'.ownBlock = some k
      · rw [if_pos e0]
        rcases h0 with e1 | ⟨g, e1, hg, _⟩
        · exact (h.t0 k (e1 ▸ e0)).symm
        · rw [e1] at e0; injection e0 with e0; omega
      · rw [if_neg e0, if_pos hk]
  have keepT : ∀ k t, k < w.heap.size → own k = t → t ≠ 0 → t ≠ 10 + cur → (if y.ownBlock = some k ∨ x.ownBlock = some k then 9 else if v0'.ownBlock = some k then 2 else if k < w.heap.size then own k else 0) = t := fun k t hk ht h1 h2 => by
    rw [hlow k hk, if_neg, ht]
    intro e
    rcases (hx k e).2 with e1 | e1 <;> rw [ht] at e1
    · exact h1 e1
    · exact h2 e1
  have nf : ∀ k, own k ≠ 0 → own k ≠ 1 → own k ≠ 2 → own k ≠ 10 + cur → ¬ (k = b ∨ v0.ownBlock = some k ∨ x.ownBlock = some k) := fun k a1 a2 a3 a4 e => by
    rcases e with e | e | e
    · exact a2 (by rw [e]; exact h.tb)
    · exact a3 (h.t0 k e)
    · rcases (hx k e).2 with e1 | e1
      · exact a1 e1
      · exact a4 e1
  have hev := h.even
  have hm1 : mkN (K0.length + 1) = mkN K0.length := by unfold mkN; rw [show K0.length + 1 - (K0.length + 1) % 2 = K0.length - K0.length % 2 by omega]
  refine ⟨fun k => if y.ownBlock = some k ∨ x.ownBlock = some k then 9 else if v0'.ownBlock = some k then 2 else if k < w.heap.size then own k else 0, ⟨hblk, hr, ?_, ?_, ?_, ?_, ?_, ?_, ?_, ?_, h.l2, h.l3, ?_, ?_, ?_⟩, hlow⟩
  · exact h.r2.mod hm fun g e => nf g (by rw [h.t2 g e]; decide) (by rw [h.t2 g e]; decide) (by rw [h.t2 g e]; decide) (by rw [h.t2 g e]; omega)
  · exact h.r3.mod hm fun g e => nf g (by rw [h.t3 g e]; decide) (by rw [h.t3 g e]; decide) (by rw [h.t3 g e]; decide) (by rw [h.t3 g e]; omega)
  · exact keepT b 1 (heap_lt h.blk) h.tb (by decide) (by omega)
  · intro g e
    rcases h0 with e1 | ⟨g', e1, hg, hyg⟩
    · rw [e1] at e
      exact keepT g 2 (h.r0.lt g e).2 (h.t0 g e) (by decide) (by omega)
    · rw [e1] at e
      injection e with e
      subst e
      show (if y.ownBlock = some g' ∨ x.ownBlock = some g' then 9 else if v0'.ownBlock = some g' then 2 else if g' < w.heap.size then own g' else 0) = 2
      rw [if_neg, if_pos e1]
      rintro (e | e)
      · exact hyg e
      · have := (hx g' e).1; omega
  · intro g e; exact keepT g 3 (h.r2.lt g e).2 (h.t2 g e) (by decide) (by omega)
  · intro g e; exact keepT g 4 (h.r3.lt g e).2 (h.t3 g e) (by decide) (by omega)
  · rw [List.length_append]; simp; omega
  · intro i v hv
    by_cases hi : i < K0.length
    · rw [List.getElem?_append_left hi] at hv
      obtain ⟨m, h1, h2⟩ := h.marked i v hv
      exact ⟨m, h1.mod hm (fun _ g e => nf g (by rw [(h2 g e).2]; decide) (by rw [(h2 g e).2]; decide) (by rw [(h2 g e).2]; decide) (by rw [(h2 g e).2]; omega)), fun g e => ⟨Nat.lt_of_lt_of_le (h2 g e).1 hm.size, keepT g 9 (h2 g e).1 (h2 g e).2 (by decide) (by omega)⟩⟩
    · rw [List.getElem?_append_right (by omega)] at hv
      obtain ⟨j, hj⟩ : ∃ j, j = i - K0.length := ⟨_, rfl⟩
      rw [← hj] at hv
      match j, hj, hv with
      | 0, hj, hv =>
        simp only [List.getElem?_cons_zero, Option.some.injEq] at hv
        subst hv
        rw [show i = K0.length by omega]
        exact ⟨n, hrx, fun g e => ⟨Nat.lt_of_lt_of_le (hx g e).1 hm.size, if_pos (.inr e)⟩⟩
      | 1, hj, hv =>
        simp only [List.getElem?_cons_succ, List.getElem?_cons_zero, Option.some.injEq] at hv
        subst hv
        rw [show i = K0.length + 1 by omega, hm1]
        exact ⟨n + 80, hy.ru, fun g e => ⟨(hy.lt g e).2, if_pos (.inl e)⟩⟩
      | j + 2, hj, hv => simp at hv
  · intro i v l hi hv hl
    obtain ⟨h1, h2, h3⟩ := h.raw i v l (by omega) hv hl
    exact ⟨h1.mod hm (fun g e => nf g (by rw [h3 g e]; omega) (by rw [h3 g e]; omega) (by rw [h3 g e]; omega) (by rw [h3 g e]; omega)), h2, fun g e => keepT g (10 + i) (h1.lt g e).2 (h3 g e) (by omega) (by omega)⟩
  · intro i v l hi hv hl
    obtain ⟨h1, h2⟩ := h.was i v l (by omega) hv hl
    exact ⟨h1.mod hm (fun _ g e => nf g (by rw [(h2 g e).2]; decide) (by rw [(h2 g e).2]; decide) (by rw [(h2 g e).2]; decide) (by rw [(h2 g e).2]; omega)), fun g e => ⟨Nat.lt_of_lt_of_le (h2 g e).1 hm.size, keepT g 8 (h2 g e).1 (h2 g e).2 (by decide) (by omega)⟩⟩
  · intro k hk
    have hs := hm.size
    show (if y.ownBlock = some k ∨ x.ownBlock = some k then 9 else if v0'.ownBlock = some k then 2 else if k < w.heap.size then own k else 0) = 0
    rw [if_neg, if_neg, if_neg (by omega)]
    · intro e; have := (hr.lt k e).2; omega
    · rintro (e | e)
      · have := (hy.lt k e).2; omega
      · have := (hx k e).1; omega
end Go.Proofs.YtckbckdaffdjmaaDoor

/- keep, where it writes at once. -/
namespace Go.Proofs.YtckbckdaffdjmaaDoor
open Go.RowKit
set_option maxRecDepth 100000
set_option linter.unusedVariables false
set_option linter.unusedSimpArgs false

theorem mkN_nat {n : Nat} (h : n ≤ 5864062014805) (he : n % 2 = 0) : (mkN n).toNat = 11529215046068469761 + n := by
  unfold mkN; rw [Bm.toNat_of (by omega)]; omega
theorem rep_set (l : List UInt64) (y : UInt64) {i : Nat} (h : i < l.length) : (List.replicate i y ++ l.drop i).set i y = List.replicate (i + 1) y ++ l.drop (i + 1) := by
  apply List.ext_getElem?
  intro j
  by_cases e : i = j
  · subst e
    rw [List.getElem?_set_self (by simp; omega), List.getElem?_append_left (by simp), List.getElem?_replicate, if_pos (by omega)]
  · rw [List.getElem?_set_ne e]
    by_cases hj : j < i
    · rw [List.getElem?_append_left (by simpa using hj), List.getElem?_append_left (by simp; omega), List.getElem?_replicate, List.getElem?_replicate, if_pos hj, if_pos (by omega)]
    · rw [List.getElem?_append_right (by simp; omega), List.getElem?_append_right (by simp; omega), List.getElem?_drop, List.getElem?_drop, List.length_replicate, List.length_replicate, show i + (j - i) = j by omega, show i + 1 + (j - (i + 1)) = j by omega]
theorem cell_one (w : World) (x : Value) (t : TypeId) : (w.alloc (.cells #[x] t)).cell? ⟨w.heap.size, 0, none⟩ = some x := (has_cell (heap_new w (.cells #[x] t) w.heap.size rfl) 0).trans rfl
theorem RU.keepAt {w w' : World} {q : Option Addr} {n c : Nat} {l : List UInt64} (h : RU w (.slice q n c) l) (hq : ∀ a, q = some a → a.off = 0) (hs : w.heap.size ≤ w'.heap.size)
    (hk : ∀ g i, q = some ⟨g, 0, none⟩ → i < l.length → g < w.heap.size → w'.cell? ⟨g, i, none⟩ = w.cell? ⟨g, i, none⟩) : RU w' (.slice q n c) l := by
  obtain ⟨p, c', e, h1, h2, h3, hr⟩ := h
  simp only [Value.slice.injEq] at e
  obtain ⟨rfl, rfl, rfl⟩ := e
  refine ⟨q, c, rfl, h1, h2, h3, fun i b hb => ?_⟩
  obtain ⟨g, o, e, hg, hc⟩ := hr i b hb
  have ho : o = 0 := hq _ e
  subst ho
  refine ⟨g, 0, e, by omega, ?_⟩
  rw [Nat.zero_add] at hc ⊢
  exact (hk g i e (List.getElem?_eq_some_iff.1 hb).1 hg).trans hc
theorem OU.off {B : Nat} {w : World} {q : Option Addr} {n c : Nat} {l : List UInt64} (h : OU B w (.slice q n c) l) : ∀ a, q = some a → a.off = 0 := by
  obtain ⟨⟨h0, ⟨e, hn⟩ | ⟨g, cap, cur, e, hr⟩⟩, hl⟩ := h
  · simp only [Value.slice.injEq] at e
    obtain ⟨rfl, -, -⟩ := e
    intro a ha; cases ha
  · simp only [Value.slice.injEq] at e
    obtain ⟨rfl, -, -⟩ := e
    intro a ha; injection ha with ha; rw [← ha]
set_option maxHeartbeats 4000000 in
theorem keep_now {w : World} {b : Nat} {own : Nat → Nat} {cur N0 N2 : Nat} (h : Bkk w b own false cur N0 N2) (hN : N0 + 2 ≤ 5864062014805) {x : Value} {l : List UInt64} (hx : OU 0 w x l) (hl : l.length + 80 ≤ 17592186044416)
    (ht : ∀ g, x.ownBlock = some g → own g = 0 ∨ own g = 10 + cur) :
    Calls Tryd.prog 23 #[.pointer (some ⟨b, 0, none⟩), x] w fun e w' => e = .returned (.tuple #[]) ∧ ∃ own', Bkk w' b own' false (cur + 1) (N0 + 2) N2 ∧ (∀ k, k < w.heap.size → own' k = if x.ownBlock = some k then 9 else own k) ∧ Mod (fun k => own k ≠ 0 ∨ x.ownBlock = some k) w w' := by
  obtain ⟨v0, v2, v3, K0, K2, K3, Ws, hb, hN0, hN2⟩ := h
  subst hN0 hN2
  have hev := hb.even
  have hmN := mkN_nat (n := K0.length) (by omega) hev
  obtain ⟨M, hM0⟩ : ∃ M, M = mkN K0.length := ⟨_, rfl⟩
  have HM0 := Lib.hid hM0
  rw [← hM0] at hmN
  have hM1 : IntKind.u64.wrap (11529215046068469761 + (K0.length : Int)) = (M.toNat : Int) := by rw [hmN, show (11529215046068469761 : Int) + (K0.length : Int) = ((11529215046068469761 + K0.length : Nat) : Int) by omega]; exact wrap_nat (by omega)
  have hM2 : IntKind.u64.wrap (K0.length : Int) = (K0.length : Int) := wrap_nat (by omega)
  obtain ⟨p0, cp0, e0⟩ := hb.r0.form
  obtain ⟨q, c, hxe⟩ := hx.ru.form
  have hxb : ∀ g, x.ownBlock = some g → g < w.heap.size ∧ (own g = 0 ∨ own g = 10 + cur) := fun g e => ⟨(hx.lt g e).2, ht g e⟩
  have hxn : ∀ g, x.ownBlock = some g → g ≠ b ∧ v0.ownBlock ≠ some g := fun g e => by
    refine ⟨fun e' => ?_, fun e' => ?_⟩
    · rcases ht g e with h1 | h1 <;> rw [e', hb.tb] at h1 <;> omega
    · rcases ht g e with h1 | h1 <;> rw [hb.t0 g e'] at h1 <;> omega
  have lb := heap_lt hb.blk
  have c1 := hb.blk.cell (i := 1) rfl
  have c0 := hb.blk.cell (i := 0) rfl
  have HQ : Hid (∀ a, q = some a → a.off = 0) := Lib.hid (by subst hxe; exact hx.off)
  have HB := Lib.hid hb
  have HX := Lib.hid hx
  have HN := Lib.hid hN
  have HL := Lib.hid hl
  have HXB := Lib.hid hxb
  have HXN := Lib.hid hxn
  clear hb hx hN hl hxb hxn hM0 hmN hev ht
  subst hxe
  rw [e0] at c0
  go_enter Tryd.func23, Tryd.ntmps23
  go_wp2_with fail
  refine wp_loop_count (fun i a w' => Is (fun U => ⟨#[.pointer (some ⟨b, 0, none⟩), .slice q l.length c, U 2, U 3, uv M, .int .i64 i, U 6, U 7, U 8, U 9, U 10, U 11, U 12, U 13, U 14, U 15, U 16, U 17, U 18, U 19, U 20, U 21, U 22, U 23, U 24, U 25, U 26, U 27, U 28, U 29, U 30, U 31, U 32, U 33, U 34, U 35, U 36, U 37, U 38, U 39, U 40, U 41, U 42, U 43, U 44, U 45, U 46, U 47, U 48, U 49, U 50, U 51, U 52, U 53, U 54, U 55, U 56, U 57, U 58, U 59, U 60, U 61, U 62, U 63, U 64, U 65, U 66, U 67, U 68, U 69, U 70, U 71, U 72, U 73, U 74, U 75, U 76, U 77, U 78, U 79], []⟩) a ∧ OU 0 w' (.slice q l.length c) (List.replicate i M ++ l.drop i) ∧ Mod (fun k => (Value.slice q l.length c).ownBlock = some k) w w') l.length ⟨isU (fun U => ⟨#[.pointer (some ⟨b, 0, none⟩), .slice q l.length c, U 2, U 3, uv M, .int .i64 0, U 6, U 7, U 8, U 9, U 10, U 11, U 12, U 13, U 14, U 15, U 16, U 17, U 18, U 19, U 20, U 21, U 22, U 23, U 24, U 25, U 26, U 27, U 28, U 29, U 30, U 31, U 32, U 33, U 34, U 35, U 36, U 37, U 38, U 39, U 40, U 41, U 42, U 43, U 44, U 45, U 46, U 47, U 48, U 49, U 50, U 51, U 52, U 53, U 54, U 55, U 56, U 57, U 58, U 59, U 60, U 61, U 62, U 63, U 64, U 65, U 66, U 67, U 68, U 69, U 70, U 71, U 72, U 73, U 74, U 75, U 76, U 77, U 78, U 79], []⟩) rfl, by simpa using HX.out, Mod.refl _ _⟩ ?_ ?_
  · rintro i a w' hi ⟨hU, hO, hm⟩
    obtain ⟨U, rfl⟩ := hU.out
    obtain ⟨g, z, rfl, hg, hc0, hf0, hO2, hgr⟩ := hO.store (i := i) (by simp; omega) M
    rw [rep_set l M hi] at hO2
    have hm2 := hm.trans (Mod.grown (F := fun k => (Value.slice (some ⟨g, 0, none⟩) l.length c).ownBlock = some k) hgr (fun k e _ => e))
    have HO := Lib.hid hO2
    have HM := Lib.hid hm2
    have hi' : (i : Int) < (l.length : Int) := by exact_mod_cast hi
    have hi2 : (l.length : Int) ≤ 17592186044416 := by have := HL.out; omega
    have hi0 : (0 : Int) ≤ (i : Int) := Int.natCast_nonneg i
    clear hU hO hm hO2 hm2 hgr hM1 hM2 c0 c1
    go_wp2_with fail
    exact ⟨isU (fun U => ⟨#[.pointer (some ⟨b, 0, none⟩), .slice (some ⟨g, 0, none⟩) l.length c, U 2, U 3, uv M, .int .i64 (i + 1 : Nat), U 6, U 7, U 8, U 9, U 10, U 11, U 12, U 13, U 14, U 15, U 16, U 17, U 18, U 19, U 20, U 21, U 22, U 23, U 24, U 25, U 26, U 27, U 28, U 29, U 30, U 31, U 32, U 33, U 34, U 35, U 36, U 37, U 38, U 39, U 40, U 41, U 42, U 43, U 44, U 45, U 46, U 47, U 48, U 49, U 50, U 51, U 52, U 53, U 54, U 55, U 56, U 57, U 58, U 59, U 60, U 61, U 62, U 63, U 64, U 65, U 66, U 67, U 68, U 69, U 70, U 71, U 72, U 73, U 74, U 75, U 76, U 77, U 78, U 79], []⟩) rfl, HO.out, HM.out⟩
  · rintro a w' ⟨hU, hO, hm⟩
    obtain ⟨U, rfl⟩ := hU.out
    rw [List.drop_length, List.append_nil] at hO
    have HO := Lib.hid hO
    have HM := Lib.hid hm
    clear hU hO hm hM1 hM2 c0 c1
    go_wp2_with fail
    refine wp_loop_count (fun j a w1 => ∃ y, Is (fun U => ⟨#[.pointer (some ⟨b, 0, none⟩), .slice q l.length c, U 2, U 3, uv M, U 5, y, .int .i64 j, U 8, U 9, U 10, U 11, U 12, U 13, U 14, U 15, U 16, U 17, U 18, U 19, U 20, U 21, U 22, U 23, U 24, U 25, U 26, U 27, U 28, U 29, U 30, U 31, U 32, U 33, U 34, U 35, U 36, U 37, U 38, U 39, U 40, U 41, U 42, U 43, U 44, U 45, U 46, U 47, U 48, U 49, U 50, U 51, U 52, U 53, U 54, U 55, U 56, U 57, U 58, U 59, U 60, U 61, U 62, U 63, U 64, U 65, U 66, U 67, U 68, U 69, U 70, U 71, U 72, U 73, U 74, U 75, U 76, U 77, U 78, U 79], []⟩) a ∧ OU 0 w1 y (List.replicate (l.length + j) M) ∧ RU w1 (.slice q l.length c) (List.replicate l.length M) ∧ (y.ownBlock = (Value.slice q l.length c).ownBlock ∨ ∃ g, y.ownBlock = some g ∧ w.heap.size ≤ g) ∧ Mod (fun k => (Value.slice q l.length c).ownBlock = some k) w w1) 80 ⟨.slice q l.length c, isU (fun U => ⟨#[.pointer (some ⟨b, 0, none⟩), .slice q l.length c, U 2, U 3, uv M, U 5, .slice q l.length c, .int .i64 0, U 8, U 9, U 10, U 11, U 12, U 13, U 14, U 15, U 16, U 17, U 18, U 19, U 20, U 21, U 22, U 23, U 24, U 25, U 26, U 27, U 28, U 29, U 30, U 31, U 32, U 33, U 34, U 35, U 36, U 37, U 38, U 39, U 40, U 41, U 42, U 43, U 44, U 45, U 46, U 47, U 48, U 49, U 50, U 51, U 52, U 53, U 54, U 55, U 56, U 57, U 58, U 59, U 60, U 61, U 62, U 63, U 64, U 65, U 66, U 67, U 68, U 69, U 70, U 71, U 72, U 73, U 74, U 75, U 76, U 77, U 78, U 79], []⟩) rfl, HO.out, HO.out.ru, .inl rfl, HM.out⟩ ?_ ?_
    · rintro j a w1 hj ⟨y, hU, hO, hR, hyb, hm⟩
      obtain ⟨U, rfl⟩ := hU.out
      have hb1 := below_alloc1 w1 (.cells #[uv M] 58)
      have hO1 := hO.below hb1
      have hR1 := hR.below hb1
      have hlit := RU.lit w1 #[uv M] [M] 1 rfl rfl (by simp)
      have hlen : (List.replicate (l.length + j) M).length + 1 ≤ 17592186044416 := by rw [List.length_replicate]; have := HL.out; omega
      have hj' : (j : Int) < 80 := by exact_mod_cast hj
      have hj0 : (0 : Int) ≤ (j : Int) := Int.natCast_nonneg j
      have HO1 := Lib.hid hO1
      have HR1 := Lib.hid hR1
      have HLT := Lib.hid hlit
      have HLN := Lib.hid hlen
      have HM1 := Lib.hid hm
      have HYB := Lib.hid hyb
      have HB1 := Lib.hid hb1
      clear hU hO hR hyb hm hb1 hO1 hR1 hlit hlen
      go_wp2_with (first | (at_builtin; refine wpList_append_word (v := y) rfl (.tmp 56) (.tmp 58) rfl rfl rfl rfl HO1.out HLT.out HLN.out (Nat.zero_le _) ?_; intro y2 w2 hO2 hg2 hat2 hsame2) | fail)
      rw [← List.replicate_succ', Nat.add_assoc] at hO2
      have hsz1 : w.heap.size ≤ (w1.alloc (.cells #[uv M] 58)).heap.size := Nat.le_trans HM1.out.size HB1.out.size
      have hR2 : RU w2 (.slice q l.length c) (List.replicate l.length M) := by
        refine HR1.out.keepAt HQ.out hg2.size fun g i eg hi hlt => ?_
        by_cases e : y.ownBlock = some g
        · exact hsame2 g i e (by simp at hi ⊢; omega)
        · exact World.cell?_of_block (hg2.block g hlt (fun e' => e e'.symm))
      refine ⟨y2, isU (fun U => ⟨#[.pointer (some ⟨b, 0, none⟩), .slice q l.length c, U 2, U 3, uv M, U 5, y2, .int .i64 (j + 1 : Nat), U 8, U 9, U 10, U 11, U 12, U 13, U 14, U 15, U 16, U 17, U 18, U 19, U 20, U 21, U 22, U 23, U 24, U 25, U 26, U 27, U 28, U 29, U 30, U 31, U 32, U 33, U 34, U 35, U 36, U 37, U 38, U 39, U 40, U 41, U 42, U 43, U 44, U 45, U 46, U 47, U 48, U 49, U 50, U 51, U 52, U 53, U 54, U 55, U 56, U 57, U 58, U 59, U 60, U 61, U 62, U 63, U 64, U 65, U 66, U 67, U 68, U 69, U 70, U 71, U 72, U 73, U 74, U 75, U 76, U 77, U 78, U 79], []⟩) rfl, hO2, hR2, ?_, ?_⟩
      · rcases hat2 with e | e
        · rw [e]; exact HYB.out
        · exact .inr ⟨_, e, hsz1⟩
      · refine HM1.out.trans' ((Mod.of_below HB1.out).trans (Mod.grown hg2 fun k e _ => ?_))
        rcases HYB.out with e1 | ⟨g, e1, hg⟩
        · exact .inl (e1 ▸ e)
        · rw [e1] at e; injection e with e; exact .inr (by omega)
    · rintro a w1 ⟨y, hU, hO, hR, hyb, hm⟩
      obtain ⟨U, rfl⟩ := hU.out
      have hb := HB.out
      have nf : ∀ k, (k = b ∨ v0.ownBlock = some k) → ¬ (Value.slice q l.length c).ownBlock = some k := fun k e e' => by
        have := HXN.out k e'
        rcases e with e | e
        · exact this.1 e
        · exact this.2 e
      have hblk := hb.blk.mod hm (nf b (.inl rfl))
      have hr0 := hb.r0.mod hm (fun g e => nf g (.inr e))
      have hvb : ∀ g, v0.ownBlock = some g → g ≠ b := fun g e e' => by have h1 := hb.t0 g e; rw [e', hb.tb] at h1; cases h1
      have hvlt := fun g e => ((hb.r0.lt g e).2 : g < w.heap.size)
      have c0 := hblk.cell (i := 0) rfl
      have hba := below_alloc1 w1 (.cells #[Value.slice q l.length c] 22)
      have hra := hr0.mod (F := fun _ => False) (Mod.of_below hba) (fun _ _ => id)
      have hlen0 : K0.length + 1 ≤ 5864062014805 := by have := HN.out; omega
      rw [e0] at c0
      have HBK := Lib.hid hblk
      have HR0 := Lib.hid hra
      have HBA := Lib.hid hba
      have HM1 := Lib.hid hm
      have HYB := Lib.hid hyb
      have HO1 := Lib.hid hO
      have HR1 := Lib.hid hR
      have HL0 := Lib.hid hlen0
      have HNF := Lib.hid nf
      have HVB := Lib.hid hvb
      have HVL := Lib.hid hvlt
      clear hb nf hblk hr0 hba hra hm hyb hO hR hlen0 hvb hvlt
      obtain ⟨yp, yc, hy⟩ := HO1.out.ru.form
      obtain ⟨yn, hyn⟩ : ∃ yn, yn = (List.replicate (l.length + 80) M).length := ⟨_, rfl⟩
      rw [← hyn] at hy
      have HY := Lib.hid hy
      clear hyn
      subst hy
      go_upto_region 14 with (first
        | (at_builtin
           refine wpList_append_VU (v := v0) rfl (.tmp 64) (.tmp 66) rfl rfl w1.heap.size e0.symm rfl HR0.out (cell_one _ _ _) rfl HL0.out (Nat.zero_le _) ?_
           intro u2 w2 hu2 hg2 hat2
           have hblk2 : Rw w2 b 31 [v0, .bool false, v2, v3] := (HBK.out.below HBA.out).mod (F := fun k => v0.ownBlock = some k) (Mod.grown hg2 fun k e _ => e) (fun e => HVB.out b e rfl)
           have c2 := hblk2.cell (i := 0) rfl
           have f2 := hblk2.frozen 0
           have HU2 := Lib.hid hu2
           have HG2 := Lib.hid hg2
           have HA2 := Lib.hid hat2
           have HB2 := Lib.hid hblk2
           obtain ⟨p2, cp2, eu2⟩ := hu2.form
           clear hu2 hg2 hat2 hblk2
           rw [List.length_append, List.length_singleton] at eu2
           have EU2 := Lib.hid eu2
           rw [eu2])
        | fail)
      have hx1 : (w1.alloc (.cells #[Value.slice q l.length c] 22)).heap.size = w1.heap.size + 1 := by simp
      have hws : w.heap.size ≤ w1.heap.size := HM1.out.size
      have hu2b : ∀ g, u2.ownBlock = some g → v0.ownBlock = some g ∨ w1.heap.size < g := fun g e => by
        rcases HA2.out with e1 | e1
        · exact .inl (e1 ▸ e)
        · rw [e1, hx1] at e; injection e with e; exact .inr (by omega)
      have hu2n : ∀ g, u2.ownBlock = some g → g ≠ b := fun g e e' => by
        rcases hu2b g e with e1 | e1
        · exact HVB.out g e1 e'
        · omega
      have hyn : ∀ g, (Value.slice yp yn yc).ownBlock = some g → g ≠ b ∧ v0.ownBlock ≠ some g := fun g e => by
        rcases HYB.out with e1 | ⟨g', e1, hg⟩
        · exact HXN.out g (e1 ▸ e)
        · rw [e1] at e; injection e with e
          exact ⟨by omega, fun e2 => by have := HVL.out g e2; omega⟩
      have hylt : ∀ g, (Value.slice yp yn yc).ownBlock = some g → g < w1.heap.size := fun g e => (HO1.out.lt g e).2
      have hblk3 := HB2.out.set 0 u2
      have hu3 : VU 0 (w2.setCell ⟨b, 0, none⟩ u2) u2 (K0 ++ [Value.slice q l.length c]) := HU2.out.mod (F := fun k => k = b) (Mod.setCell _ _ _ _ rfl) hu2n
      have hm3 : Mod (fun k => k = b ∨ v0.ownBlock = some k) w1 (w2.setCell ⟨b, 0, none⟩ u2) :=
        (Mod.of_below HBA.out).trans ((Mod.grown HG2.out fun k e _ => .inr e).trans (Mod.setCell _ _ _ _ (.inl rfl)))
      have hO3 := HO1.out.mod hm3 (fun g e e' => by
        rcases e' with e' | e'
        · exact (hyn g e).1 e'
        · exact (hyn g e).2 e')
      have hR3 := HR1.out.mod hm3 (fun _ g e e' => HNF.out g e' e)
      have hlen3 : (K0 ++ [Value.slice q l.length c]).length + 1 ≤ 5864062014805 := by have := HN.out; rw [List.length_append, List.length_singleton]; omega
      rw [← EU2.out] 
      have c3 := hblk3.cell (i := 0) rfl
      obtain ⟨w3, hw3⟩ : ∃ w3, w3 = w2.setCell ⟨b, 0, none⟩ u2 := ⟨_, rfl⟩
      rw [← hw3] at hblk3 hu3 hm3 hO3 hR3 c3 ⊢
      have hba3 := below_alloc1 w3 (.cells #[Value.slice yp yn yc] 22)
      have hra3 := hu3.mod (F := fun _ => False) (Mod.of_below hba3) (fun _ _ => id)
      have HBK3 := Lib.hid hblk3
      have HBA3 := Lib.hid hba3
      have HRA3 := Lib.hid hra3
      have HO3 := Lib.hid hO3
      have HR3 := Lib.hid hR3
      have HL3 := Lib.hid hlen3
      have HM3 := Lib.hid hm3
      have HYN := Lib.hid hyn
      have HYL := Lib.hid hylt
      have HUB := Lib.hid hu2b
      have HUN := Lib.hid hu2n
      have HWS := Lib.hid hws
      rw [eu2] at c3
      clear hblk3 hu3 hm3 hO3 hR3 hlen3 hw3 hba3 hra3 hyn hylt hu2b hu2n hx1 hws c2 f2 c0
      go_wp2_with (first
        | (at_builtin
           refine wpList_append_VU (v := u2) rfl (.tmp 74) (.tmp 76) rfl rfl w3.heap.size EU2.out.symm rfl HRA3.out (cell_one _ _ _) rfl HL3.out (Nat.zero_le _) ?_
           intro u4 w4 hu4 hg4 hat4
           have hblk4 : Rw w4 b 31 [u2, .bool false, v2, v3] := (HBK3.out.below HBA3.out).mod (F := fun k => u2.ownBlock = some k) (Mod.grown hg4 fun k e _ => e) (fun e => HUN.out b e rfl)
           have c4 := hblk4.cell (i := 0) rfl
           have f4 := hblk4.frozen 0
           have HU4 := Lib.hid hu4
           have HG4 := Lib.hid hg4
           have HA4 := Lib.hid hat4
           have HB4 := Lib.hid hblk4
           obtain ⟨p4, cp4, eu4⟩ := hu4.form
           clear hu4 hg4 hat4 hblk4
           rw [List.length_append, List.length_append, List.length_singleton, List.length_singleton] at eu4
           have EU4 := Lib.hid eu4
           rw [eu4])
        | fail)
      go_end0
      rw [← EU4.out]
      refine ⟨rfl, ?_⟩
      obtain ⟨w5, hw5⟩ : ∃ w5, w5 = w4.setCell ⟨b, 0, none⟩ u4 := ⟨_, rfl⟩
      have hb := HB.out
      have hs3 : (w3.alloc (.cells #[Value.slice yp yn yc] 22)).heap.size = w3.heap.size + 1 := by simp
      have hw13 : w1.heap.size ≤ w3.heap.size := HM3.out.size
      have hu4b : ∀ g, u4.ownBlock = some g → u2.ownBlock = some g ∨ w3.heap.size < g := fun g e => by
        rcases HA4.out with e1 | e1
        · exact .inl (e1 ▸ e)
        · rw [e1, hs3] at e; injection e with e; exact .inr (by omega)
      have hu4n : ∀ g, u4.ownBlock = some g → g ≠ b := fun g e e' => by
        rcases hu4b g e with e1 | e1
        · exact HUN.out g e1 e'
        · have := HWS.out; omega
      have hm5 : Mod (fun k => k = b ∨ v0.ownBlock = some k ∨ w1.heap.size ≤ k) w3 w5 := by
        rw [hw5]
        refine (Mod.of_below HBA3.out).trans ((Mod.grown HG4.out fun k e _ => ?_).trans (Mod.setCell _ _ _ _ (.inl rfl)))
        rcases HUB.out k e with e1 | e1
        · exact .inr (.inl e1)
        · exact .inr (.inr (by omega))
      have hm15 : Mod (fun k => k = b ∨ v0.ownBlock = some k) w1 w5 := HM3.out.trans' (hm5.mono fun k _ e => by
        rcases e with e | e | e
        · exact .inl (.inl e)
        · exact .inl (.inr e)
        · exact .inr e)
      have hmw : Mod (fun k => k = b ∨ v0.ownBlock = some k ∨ (Value.slice q l.length c).ownBlock = some k) w w5 :=
        (HM1.out.mono fun k _ e => .inr (.inr e)).trans (hm15.mono fun k _ e => e.elim .inl fun e => .inr (.inl e))
      have hu5 : VU 0 w5 u4 (K0 ++ [Value.slice q l.length c, Value.slice yp yn yc]) := by
        rw [hw5]
        have := HU4.out.mod (F := fun k => k = b) (Mod.setCell w4 b 0 u4 rfl) hu4n
        rwa [List.append_assoc] at this
      have hblk5 : Rw w5 b 31 [u4, .bool false, v2, v3] := by rw [hw5]; exact HB4.out.set 0 u4
      have hylt := HYL.out
      have hnot : ∀ g, ((Value.slice yp yn yc).ownBlock = some g ∨ (Value.slice q l.length c).ownBlock = some g) → g < w1.heap.size → ¬ (g = b ∨ v0.ownBlock = some g) := fun g e hg e' => by
        rcases e with e | e
        · rcases e' with e' | e'
          · exact (HYN.out g e).1 e'
          · exact (HYN.out g e).2 e'
        · exact HNF.out g e' e
      have hO5 : OU 0 w5 (Value.slice yp yn yc) (List.replicate (l.length + 80) M) := HO1.out.mod hm15 fun g e => hnot g (.inl e) (hylt g e)
      have hxl : ∀ g, (Value.slice q l.length c).ownBlock = some g → g < w1.heap.size := fun g e => by have := (HXB.out g e).1; have := HWS.out; omega
      have hR5 : RU w5 (Value.slice q l.length c) (List.replicate l.length M) := HR1.out.mod hm15 fun _ g e => hnot g (.inr e) (hxl g e)
      rw [← hw5]
      rw [HM0.out] at hO5 hR5
      have h0 : u4.ownBlock = v0.ownBlock ∨ ∃ g, u4.ownBlock = some g ∧ w.heap.size ≤ g ∧ (Value.slice yp yn yc).ownBlock ≠ some g := by
        rcases HA4.out with e1 | e1
        · rcases HA2.out with e2 | e2
          · exact .inl (e1.trans e2)
          · refine .inr ⟨_, e1.trans e2, Nat.le_trans HWS.out HBA.out.size, fun e => ?_⟩
            have h1 := hylt _ e
            have h2 := HBA.out.size
            omega
        · refine .inr ⟨_, e1, Nat.le_trans (Nat.le_trans HWS.out hw13) HBA3.out.size, fun e => ?_⟩
          have h1 := hylt _ e
          have h2 := HBA3.out.size
          omega
      obtain ⟨own', h1, h2⟩ := hb.full (x := Value.slice q l.length c) (y := Value.slice yp yn yc) HXB.out hmw hblk5 hu5 h0 hR5 hO5 HYB.out
      refine ⟨own', ⟨u4, v2, v3, _, _, _, _, h1, by simp, rfl⟩, h2, hmw.mono fun k hk e => ?_⟩
      rcases e with e | e | e
      · exact .inl (by rw [e, hb.tb]; decide)
      · exact .inl (by rw [hb.t0 k e]; decide)
      · exact .inr e
end Go.Proofs.YtckbckdaffdjmaaDoor

/- The law's own functions on lists of words: copied, sameWords, intact. -/
namespace Go.Proofs.YtckbckdaffdjmaaDoor
open Go.RowKit
set_option maxRecDepth 100000
set_option linter.unusedVariables false
set_option linter.unusedSimpArgs false

/-- What lies behind the end. -/
def beU : UInt64 := 13835058055282163719
theorem beU_v : (beU.toNat : Int) = 13835058055282163719 := rfl
/-- Behind i words of the copy. -/
def fillU (W : List UInt64) (i : Nat) : List UInt64 := W.take i ++ List.replicate (W.length + 3 - i) beU
theorem fillU_zero (W : List UInt64) : fillU W 0 = List.replicate (W.length + 3) beU := by simp [fillU]
theorem fillU_all (W : List UInt64) : fillU W W.length = W ++ [beU, beU, beU] := by
  unfold fillU
  rw [List.take_length, show W.length + 3 - W.length = 3 by omega]; rfl
theorem fillU_length {W : List UInt64} {i : Nat} (h : i ≤ W.length) : (fillU W i).length = W.length + 3 := by
  unfold fillU
  rw [List.length_append, List.length_take, List.length_replicate]; omega
theorem fillU_next {W : List UInt64} {i : Nat} {x : UInt64} (h : W[i]? = some x) : (fillU W i).set i x = fillU W (i + 1) := by
  have hi := (List.getElem?_eq_some_iff.1 h).1
  apply List.ext_getElem?
  intro j
  unfold fillU
  by_cases e : i = j
  · subst e
    rw [List.getElem?_set_self (by rw [List.length_append, List.length_take, List.length_replicate]; omega), List.getElem?_append_left (by rw [List.length_take]; omega), List.getElem?_take, if_pos (by omega), h]
  · rw [List.getElem?_set_ne e]
    by_cases hj : j < i
    · rw [List.getElem?_append_left (by rw [List.length_take]; omega), List.getElem?_append_left (by rw [List.length_take]; omega), List.getElem?_take, List.getElem?_take, if_pos hj, if_pos (by omega)]
    · rw [List.getElem?_append_right (by rw [List.length_take]; omega), List.getElem?_append_right (by rw [List.length_take]; omega), List.length_take, List.length_take, List.getElem?_replicate, List.getElem?_replicate, Nat.min_eq_left (by omega), Nat.min_eq_left (by omega)]
      by_cases h2 : j < W.length + 3
      · rw [if_pos (by omega), if_pos (by omega)]
      · rw [if_neg (by omega), if_neg (by omega)]
/-- v' is the copy of v, from block B on. -/
def Cop (B : Nat) (w : World) (v v' : Value) (W : List UInt64) : Prop :=
  (∃ c, v = .slice none 0 c ∧ W = [] ∧ v' = .slice none 0 0) ∨
  (∃ a c g, v = .slice (some a) W.length c ∧ v' = .slice (some ⟨g, 0, none⟩) W.length (W.length + 3) ∧ B ≤ g ∧ Rw w g 58 ((W ++ [beU, beU, beU]).map uv))
theorem Cop.mod {F : Nat → Prop} {B : Nat} {w w' : World} {v v' : Value} {W : List UInt64} (h : Cop B w v v' W) (hm : Mod F w w') (hf : ∀ g, v'.ownBlock = some g → ¬ F g) : Cop B w' v v' W := by
  rcases h with h | ⟨a, c, g, h1, rfl, h3, h4⟩
  · exact .inl h
  · exact .inr ⟨a, c, g, h1, rfl, h3, h4.mod hm (hf g rfl)⟩
theorem Cop.below {B : Nat} {w w' : World} {v v' : Value} {W : List UInt64} (h : Cop B w v v' W) (hb : Below w.heap.size w w') : Cop B w' v v' W := h.mod (F := fun _ => False) (Mod.of_below hb) (fun _ _ => id)
theorem Cop.ou {B : Nat} {w : World} {v v' : Value} {W : List UInt64} (h : Cop B w v v' W) (hl : W.length + 3 ≤ 17592186044416) : OU B w v' W := by
  rcases h with ⟨c, h1, rfl, rfl⟩ | ⟨a, c, g, h1, rfl, h3, h4⟩
  · exact OU.nil_ B w
  · refine ⟨⟨by simp, .inr ⟨g, W.length + 3, ((W ++ [beU, beU, beU]).map uv).toArray, rfl, h3, h4, by omega, by simp only [maxLen]; omega, by simp, ?_⟩⟩, by omega⟩
    rw [Nat.mul_one, List.map_append]
    show ((W.map uv ++ _)).take W.length = _
    rw [List.take_append_of_le_length (by simp), List.take_of_length_le (by simp)]
set_option maxHeartbeats 4000000 in
theorem copied_calls {w : World} {v : Value} {W : List UInt64} (h : RU w v W) (hl : W.length + 3 ≤ 17592186044416) :
    Calls Tryd.prog 19 #[v] w fun e w' => ∃ v', e = .returned v' ∧ Cop w.heap.size w' v v' W ∧ Below w.heap.size w w' := by
  have HR := Lib.hid h
  have hm := uy_made (W.length + 3) (by omega)
  obtain ⟨p, c, hv⟩ := h.form
  have hnil : p = none → W = [] := by
    intro e
    obtain ⟨p', c', e', _, _, _, hr⟩ := h
    rw [hv] at e'
    simp only [Value.slice.injEq] at e'
    obtain ⟨rfl, -, -⟩ := e'
    cases W with
    | nil => rfl
    | cons b r => obtain ⟨g, o, e1, _⟩ := hr 0 b rfl; rw [e] at e1; cases e1
  clear h
  subst hv
  cases p with
  | none =>
    have := hnil rfl
    subst this
    go_enter Tryd.func19, Tryd.ntmps19
    clear hm hnil hl
    go_wp2_with fail
    go_ret
    exact ⟨_, rfl, .inl ⟨c, rfl, rfl, rfl⟩, Below.refl _ _⟩
  | some a =>
    clear hnil
    obtain ⟨L, hL⟩ : ∃ L, L = W.length := ⟨_, rfl⟩
    have HL := Lib.hid hL
    rw [← hL] at hm hl HR ⊢
    clear hL
    have hl2 : (L : Int) + 3 ≤ 17592186044416 := by omega
    have hl0 : (0 : Int) ≤ (L : Int) := Int.natCast_nonneg L
    have hl1 : (L : Int) + 3 = ((L + 3 : Nat) : Int) := by omega
    rw [← hl1] at hm
    replace hm := hm w
    rw [made_cells] at hm
    have hrow0 : Rw (w.alloc (.cells (((List.replicate (L + 3) (0 : UInt64)).map uv).toArray) 58)) w.heap.size 58 ((List.replicate 0 beU ++ (List.replicate (L + 3) (0 : UInt64)).drop 0).map uv) := by
      exact heap_new w (.cells (((List.replicate (L + 3) (0 : UInt64)).map uv).toArray) 58) w.heap.size rfl
    have HROW0 := Lib.hid hrow0
    have HB0 := Lib.hid (below_alloc1 w (.cells (((List.replicate (L + 3) (0 : UInt64)).map uv).toArray) 58))
    have HL3 := Lib.hid hl
    obtain ⟨w0, hw0⟩ : ∃ w0, w0 = w.alloc (.cells (((List.replicate (L + 3) (0 : UInt64)).map uv).toArray) 58) := ⟨_, rfl⟩
    rw [← hw0] at hm HROW0 HB0
    clear hrow0 hw0 hl1
    go_enter Tryd.func19, Tryd.ntmps19
    go_wp2_with fail
    refine wp_loop_count (fun i a' w' => Is (fun U => ⟨#[.slice (some a) L c, U 1, U 2, .slice (some ⟨w.heap.size, 0, none⟩) (L + 3) (L + 3), .int .i64 i, U 5, U 6, U 7, U 8, U 9, U 10, U 11, U 12, U 13, U 14, U 15, U 16, U 17, U 18, U 19, U 20, U 21, U 22, U 23, U 24, U 25, U 26, U 27, U 28, U 29, U 30, U 31, U 32, U 33, U 34, U 35, U 36, U 37], []⟩) a' ∧ Rw w' w.heap.size 58 ((List.replicate i beU ++ (List.replicate (L + 3) (0 : UInt64)).drop i).map uv) ∧ Below w.heap.size w w') (L + 3) ⟨isU (fun U => ⟨#[.slice (some a) L c, U 1, U 2, .slice (some ⟨w.heap.size, 0, none⟩) (L + 3) (L + 3), .int .i64 0, U 5, U 6, U 7, U 8, U 9, U 10, U 11, U 12, U 13, U 14, U 15, U 16, U 17, U 18, U 19, U 20, U 21, U 22, U 23, U 24, U 25, U 26, U 27, U 28, U 29, U 30, U 31, U 32, U 33, U 34, U 35, U 36, U 37], []⟩) rfl, HROW0.out, HB0.out⟩ ?_ ?_
    · rintro i a' w' hi ⟨hU, hrow, hb⟩
      obtain ⟨U, rfl⟩ := hU.out
      have hset := hrow.set i (uv beU)
      rw [← List.map_set, rep_set _ _ (by simpa using hi)] at hset
      have hc0 : w'.cell? ⟨w.heap.size, i, none⟩ = some (uv 0) := hrow.cell (by
        rw [List.getElem?_map, List.getElem?_append_right (by simp), List.length_replicate, Nat.sub_self, List.getElem?_drop, List.getElem?_replicate, if_pos (by omega)]; rfl)
      have hf0 := hrow.frozen i
      have hbe : Below w.heap.size w (w'.setCell ⟨w.heap.size, i, none⟩ (uv beU)) := hb.setCell (p := ⟨w.heap.size, i, none⟩) (Nat.le_refl _) _
      have HS := Lib.hid hset
      have HB := Lib.hid hbe
      have hi' : (i : Int) < (L : Int) + 3 := by exact_mod_cast hi
      have hi0 : (0 : Int) ≤ (i : Int) := Int.natCast_nonneg i
      clear hm hU hrow hset hb hbe
      go_wp2_with fail
      exact ⟨isU (fun U => ⟨#[.slice (some a) L c, U 1, U 2, .slice (some ⟨w.heap.size, 0, none⟩) (L + 3) (L + 3), .int .i64 (i + 1 : Nat), U 5, U 6, U 7, U 8, U 9, U 10, U 11, U 12, U 13, U 14, U 15, U 16, U 17, U 18, U 19, U 20, U 21, U 22, U 23, U 24, U 25, U 26, U 27, U 28, U 29, U 30, U 31, U 32, U 33, U 34, U 35, U 36, U 37], []⟩) rfl, HS.out, HB.out⟩
    · rintro a' w' ⟨hU, hrow, hb⟩
      obtain ⟨U, rfl⟩ := hU.out
      have hd : List.replicate (L + 3) beU ++ (List.replicate (L + 3) (0 : UInt64)).drop (L + 3) = fillU W 0 := by rw [fillU_zero, ← HL.out, List.drop_of_length_le (by simp), List.append_nil]
      rw [hd] at hrow
      have HROW := Lib.hid hrow
      have HB := Lib.hid hb
      clear hm hU hrow hb hd
      go_wp2_with fail
      refine wp_loop_count (fun i a' w' => Is (fun U => ⟨#[.slice (some a) L c, U 1, U 2, .slice (some ⟨w.heap.size, 0, none⟩) (L + 3) (L + 3), U 4, .int .i64 i, U 6, U 7, U 8, U 9, U 10, U 11, U 12, U 13, U 14, U 15, U 16, U 17, U 18, U 19, U 20, U 21, U 22, U 23, U 24, U 25, U 26, U 27, U 28, U 29, U 30, U 31, U 32, U 33, U 34, U 35, U 36, U 37], []⟩) a' ∧ Rw w' w.heap.size 58 ((fillU W i).map uv) ∧ Below w.heap.size w w') L ⟨isU (fun U => ⟨#[.slice (some a) L c, U 1, U 2, .slice (some ⟨w.heap.size, 0, none⟩) (L + 3) (L + 3), U 4, .int .i64 0, U 6, U 7, U 8, U 9, U 10, U 11, U 12, U 13, U 14, U 15, U 16, U 17, U 18, U 19, U 20, U 21, U 22, U 23, U 24, U 25, U 26, U 27, U 28, U 29, U 30, U 31, U 32, U 33, U 34, U 35, U 36, U 37], []⟩) rfl, HROW.out, HB.out⟩ ?_ ?_
      · rintro i a' w' hi ⟨hU, hrow, hb⟩
        obtain ⟨U, rfl⟩ := hU.out
        obtain ⟨x, hx⟩ : ∃ x, W[i]? = some x := ⟨_, List.getElem?_eq_getElem (by rw [← HL.out]; exact hi)⟩
        obtain ⟨p', c', e', _, _, _, hr⟩ := HR.out
        simp only [Value.slice.injEq] at e'
        obtain ⟨rfl, -, -⟩ := e'
        obtain ⟨g, o, e, hg, hcell⟩ := hr _ _ hx
        injection e with e
        subst e
        have hcell' := ((bcell hb).1 g _ hg).trans hcell
        have hset := hrow.set i (uv x)
        rw [← List.map_set, fillU_next hx] at hset
        obtain ⟨z, hz⟩ : ∃ z, (fillU W i)[i]? = some z := ⟨_, List.getElem?_eq_getElem (by rw [fillU_length (by have := HL.out; omega)]; have := HL.out; omega)⟩
        have hc0 : w'.cell? ⟨w.heap.size, i, none⟩ = some (uv z) := hrow.cell (by rw [List.getElem?_map, hz]; rfl)
        have hf0 := hrow.frozen i
        have hbe : Below w.heap.size w (w'.setCell ⟨w.heap.size, i, none⟩ (uv x)) := hb.setCell (p := ⟨w.heap.size, i, none⟩) (Nat.le_refl _) _
        have HS := Lib.hid hset
        have HB := Lib.hid hbe
        have hi' : (i : Int) < (L : Int) := by exact_mod_cast hi
        have hi3 : (i : Int) < (L : Int) + 3 := by omega
        have hi0 : (0 : Int) ≤ (i : Int) := Int.natCast_nonneg i
        clear hU hrow hset hb hbe hr hx hz hcell
        go_wp2_with fail
        exact ⟨isU (fun U => ⟨#[.slice (some ⟨g, o, none⟩) L c, U 1, U 2, .slice (some ⟨w.heap.size, 0, none⟩) (L + 3) (L + 3), U 4, .int .i64 (i + 1 : Nat), U 6, U 7, U 8, U 9, U 10, U 11, U 12, U 13, U 14, U 15, U 16, U 17, U 18, U 19, U 20, U 21, U 22, U 23, U 24, U 25, U 26, U 27, U 28, U 29, U 30, U 31, U 32, U 33, U 34, U 35, U 36, U 37], []⟩) rfl, HS.out, HB.out⟩
      · rintro a' w' ⟨hU, hrow, hb⟩
        obtain ⟨U, rfl⟩ := hU.out
        have HROW := Lib.hid hrow
        have HB := Lib.hid hb
        clear hU hrow hb
        go_wp2_with fail
        go_ret
        refine ⟨.slice (some ⟨w.heap.size, 0, none⟩) L (L + 3), rfl, .inr ⟨a, c, w.heap.size, ?_, ?_, Nat.le_refl _, ?_⟩, HB.out⟩
        · rw [HL.out]
        · rw [HL.out]
        · have := HROW.out
          rwa [HL.out, fillU_all] at this
set_option maxHeartbeats 4000000 in
theorem sameWords_calls {w : World} {va vb : Value} {l : List UInt64} (h : RU w va l) (h' : RU w vb l) : Pur Tryd.prog 22 #[va, vb] w (.bool true) := by
  unfold Pur
  obtain ⟨p, c, rfl, h1, h2, h3, hr⟩ := h
  obtain ⟨p', c', rfl, h1', h2', h3', hr'⟩ := h'
  go_enter Tryd.func22, Tryd.ntmps22
  go_wp2_with fail
  refine wp_loop_count (fun i a w' => (∃ U : Nat → Value, a = ⟨#[.slice p l.length c, .slice p' l.length c', U 2, U 3, .bool false, .int .i64 i, U 6, U 7, U 8, U 9, U 10, U 11, U 12, U 13, U 14, U 15, U 16, U 17, U 18, U 19, U 20, U 21, U 22, U 23, U 24, U 25], []⟩) ∧ Below w.heap.size w w') l.length ⟨exU (fun U => ⟨#[.slice p l.length c, .slice p' l.length c', U 2, U 3, .bool false, .int .i64 0, U 6, U 7, U 8, U 9, U 10, U 11, U 12, U 13, U 14, U 15, U 16, U 17, U 18, U 19, U 20, U 21, U 22, U 23, U 24, U 25], []⟩) rfl, Below.refl _ _⟩ ?_ ?_
  · rintro i a w' hi ⟨⟨U, rfl⟩, hb⟩
    obtain ⟨b, hlb⟩ : ∃ b, l[i]? = some b := ⟨l[i], List.getElem?_eq_getElem hi⟩
    obtain ⟨g, o, rfl, hg, hcell⟩ := hr i b hlb
    obtain ⟨g', o', rfl, hg', hcell'⟩ := hr' i b hlb
    have hgw : g < w'.heap.size := Nat.lt_of_lt_of_le hg hb.size
    have hgw' : g' < w'.heap.size := Nat.lt_of_lt_of_le hg' hb.size
    replace hcell := ((bcell hb).1 g (o + i) hg).trans hcell
    replace hcell' := ((bcell hb).1 g' (o' + i) hg').trans hcell'
    have hi' : (i : Int) < (l.length : Int) := by exact_mod_cast hi
    have hi0 : (0 : Int) ≤ (i : Int) := Int.natCast_nonneg i
    clear hr hr' hlb
    go_wp2_with fail
    refine wp_region_here (by kernel_rfl) (by kernel_rfl) ?_
    (repeat (first | (apply wpR_pass rfl; (try simp only [Act.put, List.setIfInBounds_toArray, List.set_cons_succ, List.set_cons_zero])) | (apply wpR_val rfl; (focus (intro w1 hR; obtain ⟨hc, hf⟩ := bcellB hR; (try go_simp); (try exact Eq.refl _); done)); (try simp only [Act.put, List.setIfInBounds_toArray, List.set_cons_succ, List.set_cons_zero])) | (apply wpR_call rfl; (focus (intro w1 hR; obtain ⟨hc, hf⟩ := bcellB hR; (try go_simp); (try exact And.intro rfl rfl); done)); (focus (intro w1 hR; first | exact ().at_ (by first | omega | (simp; done) | (simp; omega)) hR)); (try simp only [Act.put, List.setIfInBounds_toArray, List.set_cons_succ, List.set_cons_zero])) | (apply wpR_val_want rfl; (focus (intro w1 hR; obtain ⟨hc, hf⟩ := bcellB hR; (try go_simp); (try exact Eq.refl _); done)); (try simp only [Act.put, List.setIfInBounds_toArray, List.set_cons_succ, List.set_cons_zero])) | (apply wpR_call_want rfl; (focus (intro w1 hR; obtain ⟨hc, hf⟩ := bcellB hR; (try go_simp); (try exact And.intro rfl rfl); done)); (focus (intro w1 hR; first | exact ().at_ (by first | omega | (simp; done) | (simp; omega)) hR)); (try simp only [Act.put, List.setIfInBounds_toArray, List.set_cons_succ, List.set_cons_zero]))))
    refine wpR_nil (fun w2 hb2 => ?_)
    go_wp2_with fail
    exact ⟨exU (fun U => ⟨#[.slice (some ⟨g, o, none⟩) l.length c, .slice (some ⟨g', o', none⟩) l.length c', U 2, U 3, .bool false, .int .i64 (i + 1 : Nat), U 6, U 7, U 8, U 9, U 10, U 11, U 12, U 13, U 14, U 15, U 16, U 17, U 18, U 19, U 20, U 21, U 22, U 23, U 24, U 25], []⟩) rfl, hb.trans (hb2.mono hb.size)⟩
  · rintro a w' ⟨⟨U, rfl⟩, hb⟩
    go_wp2_with fail
    go_ret
    exact ⟨rfl, hb⟩
theorem Cop.ru {B : Nat} {w : World} {v v' : Value} {W : List UInt64} (h : Cop B w v v' W) (hl : W.length + 3 ≤ 17592186044416) : RU w v' W := (h.ou hl).ru
set_option maxHeartbeats 4000000 in
theorem intact_calls {w : World} {B : Nat} {va vi : Value} {W : List UInt64} (hc : Cop B w va vi W) (h : RU w va W) (hl : W.length + 3 ≤ 17592186044416) : Pur Tryd.prog 25 #[vi, va] w (.bool true) := by
  unfold Pur
  have hs := sameWords_calls (hc.ru hl) h
  have HL := Lib.hid hl
  rcases hc with ⟨c, rfl, rfl, rfl⟩ | ⟨a, c, g, rfl, rfl, h3, h4⟩
  · clear hl
    go_enter Tryd.func25, Tryd.ntmps25
    go_wp2_with (first | (go_at_call 22; refine hs.out.mono ?_; rintro e w1 ⟨rfl, hb1⟩) | fail)
    go_ret
    exact ⟨rfl, hb1⟩
  · have H4 := Lib.hid h4
    have lg := heap_lt h4
    obtain ⟨L, hL⟩ : ∃ L, L = W.length := ⟨_, rfl⟩
    have HLL := Lib.hid hL
    rw [← hL] at hl hs ⊢
    have hl2 : (L : Int) + 3 ≤ 17592186044416 := by omega
    have hl0 : (0 : Int) ≤ (L : Int) := Int.natCast_nonneg L
    clear hL h4 h
    go_enter Tryd.func25, Tryd.ntmps25
    go_wp2_with (first | (go_at_call 22; refine hs.out.mono ?_; rintro e w1 ⟨rfl, hb1⟩) | fail)
    have FRM : True := trivial
    refine wp_loop_count (fun j a' w' => (∃ U : Nat → Value, a' = ⟨#[.slice (some ⟨g, 0, none⟩) L (L + 3), .slice (some a) L c, U 2, U 3, .bool false, .bool true, .slice (some ⟨g, 0, none⟩) (L + 3) (L + 3), .int .i64 ((L + j : Nat) : Int), U 8, U 9, U 10, U 11, U 12, U 13, U 14, U 15, U 16, U 17, U 18, U 19, U 20, U 21, U 22, U 23, U 24, U 25, U 26, U 27, U 28, U 29, U 30, U 31, U 32, U 33, U 34, U 35], []⟩) ∧ Below w.heap.size w w') 3 ⟨exU (fun U => ⟨#[.slice (some ⟨g, 0, none⟩) L (L + 3), .slice (some a) L c, U 2, U 3, .bool false, .bool true, .slice (some ⟨g, 0, none⟩) (L + 3) (L + 3), .int .i64 ((L + 0 : Nat) : Int), U 8, U 9, U 10, U 11, U 12, U 13, U 14, U 15, U 16, U 17, U 18, U 19, U 20, U 21, U 22, U 23, U 24, U 25, U 26, U 27, U 28, U 29, U 30, U 31, U 32, U 33, U 34, U 35], []⟩) rfl, hb1⟩ ?_ ?_
    · rintro j a' w' hj ⟨⟨U, rfl⟩, hb⟩
      have hcell : w'.cell? ⟨g, L + j, none⟩ = some (uv beU) := ((bcell hb).1 g (L + j) lg).trans (H4.out.cell (by
        rw [List.getElem?_map, List.getElem?_append_right (by have := HLL.out; omega), ← HLL.out, Nat.add_sub_cancel_left]
        match j, hj with
        | 0, _ => rfl
        | 1, _ => rfl
        | 2, _ => rfl))
      obtain ⟨k, hk⟩ : ∃ k, k = L + j := ⟨_, rfl⟩
      rw [← hk] at hcell ⊢
      have hk1 : (k : Int) < (L : Int) + 3 := by omega
      have hk0 : (0 : Int) ≤ (k : Int) := Int.natCast_nonneg k
      have HK : Hid (((L + (j + 1) : Nat) : Int) = (k : Int) + 1) := Lib.hid (by omega)
      have hcell2 : w'.cell? ⟨g, k, none⟩ = some (.int .u64 13835058055282163719) := hcell
      clear hk hj hb1 hcell
      go_wp2_with fail
      refine ⟨?_, hb⟩
      rw [HK.out]
      exact exU (fun U => ⟨#[.slice (some ⟨g, 0, none⟩) L (L + 3), .slice (some a) L c, U 2, U 3, .bool false, .bool true, .slice (some ⟨g, 0, none⟩) (L + 3) (L + 3), .int .i64 ((k : Int) + 1), U 8, U 9, U 10, U 11, U 12, U 13, U 14, U 15, U 16, U 17, U 18, U 19, U 20, U 21, U 22, U 23, U 24, U 25, U 26, U 27, U 28, U 29, U 30, U 31, U 32, U 33, U 34, U 35], []⟩) rfl
    · rintro a' w' ⟨⟨U, rfl⟩, hb⟩
      clear hb1
      obtain ⟨k, hk⟩ : ∃ k, k = L + 3 := ⟨_, rfl⟩
      rw [← hk]
      clear hs hl hl2
      go_wp2_with fail
      go_ret
      exact ⟨rfl, hb⟩
end Go.Proofs.YtckbckdaffdjmaaDoor

/- The Book, seen from outside; what makes bitmaps, whatever comes of it; the pair. -/
namespace Go.Proofs.YtckbckdaffdjmaaDoor
open Go.RowKit
set_option maxRecDepth 100000
set_option linter.unusedVariables false
set_option linter.unusedSimpArgs false

/-- A Book lies at b; own: the blocks that it knows of; at most N lists. -/
def Bok (w : World) (b : Nat) (own : Nat → Prop) (late : Bool) (N : Nat) : Prop :=
  ∃ ow N0 N2, Bkk w b ow late 0 N0 N2 ∧ (∀ k, own k ↔ ow k ≠ 0) ∧ N0 + N2 ≤ N ∧ (late = false → N2 = 0) ∧ (late = true → N0 = 0)
theorem Bok.lt {w : World} {b N : Nat} {own : Nat → Prop} {late : Bool} (h : Bok w b own late N) : ∀ k, own k → k < w.heap.size := by
  obtain ⟨ow, N0, N2, ⟨v0, v2, v3, K0, K2, K3, Ws, hb, _, _⟩, ho, _⟩ := h
  intro k hk
  rcases Nat.lt_or_ge k w.heap.size with h | h
  · exact h
  · exact absurd (hb.hi k h) ((ho k).1 hk)
theorem Bok.at_ {w : World} {b N : Nat} {own : Nat → Prop} {late : Bool} (h : Bok w b own late N) : own b := by
  obtain ⟨ow, N0, N2, ⟨v0, v2, v3, K0, K2, K3, Ws, hb, _, _⟩, ho, _⟩ := h
  exact (ho b).2 (by rw [hb.tb]; decide)
theorem Bok.mod {w w' : World} {b N : Nat} {own F : Nat → Prop} {late : Bool} (h : Bok w b own late N) (hm : Mod F w w') (hF : ∀ k, k < w.heap.size → F k → ¬ own k) : Bok w' b own late N := by
  obtain ⟨ow, N0, N2, h1, ho, hn, hl⟩ := h
  refine ⟨ow, N0, N2, h1.mod hm fun k hk hf => ?_, ho, hn, hl⟩
  have := hF k hk hf
  rw [ho] at this
  exact Decidable.not_not.1 this
theorem Bok.below {w w' : World} {b N : Nat} {own : Nat → Prop} {late : Bool} (h : Bok w b own late N) (hb : Below w.heap.size w w') : Bok w' b own late N := h.mod (F := fun _ => False) (Mod.of_below hb) (fun _ _ e => e.elim)
theorem Bok.more {w : World} {b N M : Nat} {own : Nat → Prop} {late : Bool} (h : Bok w b own late N) (hM : N ≤ M) : Bok w b own late M := by
  obtain ⟨ow, N0, N2, h1, ho, hn, hl⟩ := h
  exact ⟨ow, N0, N2, h1, ho, by omega, hl⟩
/-- What keep does. -/
structure KeepC (late : Bool) : Prop where
  run : ∀ {w : World} {b N : Nat} {own : Nat → Prop} {x : Value} {l : List UInt64}, Bok w b own late N → OU 0 w x l → l.length + 80 ≤ 17592186044416 → (∀ g, x.ownBlock = some g → ¬ own g) → N + 2 ≤ 5864062014805 →
  Calls Tryd.prog 23 #[.pointer (some ⟨b, 0, none⟩), x] w fun e w' => e = .returned (.tuple #[]) ∧ ∃ own', Bok w' b own' late (N + 2) ∧ (∀ k, k < w.heap.size → (own' k ↔ own k ∨ x.ownBlock = some k)) ∧ Mod (fun k => own k ∨ x.ownBlock = some k) w w'
theorem Bkk.zero {w : World} {b cur N0 N2 : Nat} {own : Nat → Nat} (h : Bkk w b own false cur N0 N2) (h2 : N2 = 0) : Bkk w b own false 0 N0 N2 := by
  obtain ⟨v0, v2, v3, K0, K2, K3, Ws, hb, h0, hN⟩ := h
  have hk : K2 = [] := List.eq_nil_of_length_eq_zero (hN.trans h2)
  have hw : Ws = [] := List.eq_nil_of_length_eq_zero (by rw [← hb.l2, hk]; rfl)
  subst hk hw
  exact ⟨v0, v2, v3, K0, [], K3, [], ⟨hb.blk, hb.r0, hb.r2, hb.r3, hb.tb, hb.t0, hb.t2, hb.t3, hb.even, hb.marked, hb.l2, hb.l3, fun i v l _ e => (by simp at e), fun i v l _ _ e => (by simp at e), hb.hi⟩, h0, hN⟩
theorem keepC_now : KeepC false := by
  constructor
  intro w b N own x l h hx hl hf hN
  obtain ⟨ow, N0, N2, h1, ho, hn, h2, -⟩ := h
  refine (keep_now h1 (by omega) hx hl fun g e => .inl ?_).mono ?_
  · have := hf g e
    rw [ho] at this
    exact Decidable.not_not.1 this
  · rintro e w' ⟨rfl, ow', hk, hlow, hm⟩
    refine ⟨rfl, fun k => ow' k ≠ 0, ⟨ow', N0 + 2, N2, hk.zero (h2 rfl), fun k => Iff.rfl, by omega, h2, fun e => by cases e⟩, fun k hkk => ?_, hm.mono fun k _ e => ?_⟩
    · show ow' k ≠ 0 ↔ _
      rw [hlow k hkk, ho]
      by_cases e : x.ownBlock = some k
      · simp [e]
      · simp [e]
    · rw [ho]; exact e
theorem Bok.new {w : World} {b : Nat} {late : Bool} (h : Rw w b 31 [.slice none 0 0, .bool late, .slice none 0 0, .slice none 0 0]) : Bok w b (fun k => k = b) late 0 :=
  ⟨_, 0, 0, Bkk.new h, fun k => by by_cases e : k = b <;> simp [e], Nat.le_refl _, fun _ => rfl, fun _ => rfl⟩

namespace Bm
/-- The errors of New and From. -/
def errN (n : Int) : Nat := if n < 1 ∨ 65536 < n then 1 else 0
def errF (n : Int) (V : List UInt64) : Nat := if n < 1 ∨ 65536 < n then 1 else validE n.toNat V
end Bm
/-- A bitmap or none. -/
def GotB (w w' : World) (q : Option Addr) (er : Nat) (n : Int) (W : List UInt64) : Prop :=
  (er ≠ 0 ∧ q = none) ∨ (er = 0 ∧ ∃ p bw ba, q = some ⟨p, 0, none⟩ ∧ BM w' p bw ba n.toNat W ∧ w.heap.size ≤ p ∧ w.heap.size ≤ bw ∧ w.heap.size ≤ ba)
def GotR (w w' : World) (q : Option Addr) (er : Nat) (bs : List Bool) : Prop :=
  (er ≠ 0 ∧ q = none) ∨ (er = 0 ∧ ∃ r bb, q = some ⟨r, 0, none⟩ ∧ RM w' r bb bs ∧ w.heap.size ≤ r ∧ w.heap.size ≤ bb)
section
variable {w : World} {n : Int} {v : Value} {V : List UInt64}
theorem new_any (hn : (Lit.int .i64 n).wf = true) : Calls Tryd.prog 56 #[.int .i64 n] w fun e w' => ∃ q, e = .returned (.tuple #[.pointer q, .int .i64 (Bm.errN n : Nat)]) ∧ GotB w w' q (Bm.errN n) n (List.replicate (Bm.room n.toNat) 0) ∧ Below w.heap.size w w' := by
  unfold Bm.errN
  by_cases h : n < 1 ∨ 65536 < n
  · rw [if_pos h]
    exact (new_err hn h).out.mono fun e w' ⟨he, hb⟩ => ⟨none, he, .inl ⟨by decide, rfl⟩, hb⟩
  · rw [if_neg h]
    obtain ⟨m, rfl⟩ : ∃ m : Nat, n = m := ⟨n.toNat, by omega⟩
    exact (new_calls (w := w) (n := m) (by omega) (by omega)).mono fun e w' ⟨p, bw, ba, he, hm, h1, h2, h3, hb⟩ => ⟨_, he, .inr ⟨rfl, p, bw, ba, rfl, hm, h1, h2, h3⟩, hb⟩
theorem rnew_any (hn : (Lit.int .i64 n).wf = true) : Calls Tryd.prog 57 #[.int .i64 n] w fun e w' => ∃ q, e = .returned (.tuple #[.pointer q, .int .i64 (Bm.errN n : Nat)]) ∧ GotR w w' q (Bm.errN n) (List.replicate n.toNat false) ∧ Below w.heap.size w w' := by
  unfold Bm.errN
  by_cases h : n < 1 ∨ 65536 < n
  · rw [if_pos h]
    exact (rnew_err hn h).out.mono fun e w' ⟨he, hb⟩ => ⟨none, he, .inl ⟨by decide, rfl⟩, hb⟩
  · rw [if_neg h]
    obtain ⟨m, rfl⟩ : ∃ m : Nat, n = m := ⟨n.toNat, by omega⟩
    exact (rnew_calls (w := w) (n := m) (by omega) (by omega)).mono fun e w' ⟨r, bb, he, hm, h1, h2, hb⟩ => ⟨_, he, .inr ⟨rfl, r, bb, rfl, hm, h1, h2⟩, hb⟩
theorem from_any (hn : (Lit.int .i64 n).wf = true) (hv : RU w v V) : Calls Tryd.prog 54 #[.int .i64 n, v] w fun e w' => ∃ q, e = .returned (.tuple #[.pointer q, .int .i64 (Bm.errF n V : Nat)]) ∧ GotB w w' q (Bm.errF n V) n V ∧ Below w.heap.size w w' := by
  unfold Bm.errF
  by_cases h : n < 1 ∨ 65536 < n
  · rw [if_pos h]
    exact (from_err1 hn v h).out.mono fun e w' ⟨he, hb⟩ => ⟨none, he, .inl ⟨by decide, rfl⟩, hb⟩
  · rw [if_neg h]
    obtain ⟨m, rfl⟩ : ∃ m : Nat, n = m := ⟨n.toNat, by omega⟩
    rw [Int.toNat_natCast]
    by_cases he : Bm.validE m V = 0
    · rw [he]
      exact (from_calls hv (Bm.ok_of_valid (by omega) (by omega) he)).mono fun e w' ⟨p, bw, ba, he, hm, h1, h2, h3, hb⟩ => ⟨_, he, .inr ⟨rfl, p, bw, ba, rfl, hm, h1, h2, h3⟩, hb⟩
    · exact (from_err2 (by omega) (by omega) hv he).out.mono fun e w' ⟨h1, hb⟩ => ⟨none, h1, .inl ⟨he, rfl⟩, hb⟩
theorem rfrom_any (hn : (Lit.int .i64 n).wf = true) (hv : RU w v V) : Calls Tryd.prog 55 #[.int .i64 n, v] w fun e w' => ∃ q, e = .returned (.tuple #[.pointer q, .int .i64 (Bm.errF n V : Nat)]) ∧ GotR w w' q (Bm.errF n V) (Bm.bools n.toNat V) ∧ Below w.heap.size w w' := by
  unfold Bm.errF
  by_cases h : n < 1 ∨ 65536 < n
  · rw [if_pos h]
    exact (rfrom_err1 hn v h).out.mono fun e w' ⟨he, hb⟩ => ⟨none, he, .inl ⟨by decide, rfl⟩, hb⟩
  · rw [if_neg h]
    obtain ⟨m, rfl⟩ : ∃ m : Nat, n = m := ⟨n.toNat, by omega⟩
    rw [Int.toNat_natCast]
    by_cases he : Bm.validE m V = 0
    · rw [he]
      exact (rfrom_calls hv (Bm.ok_of_valid (by omega) (by omega) he)).mono fun e w' ⟨r, bb, he, hm, h1, h2, hb⟩ => ⟨_, he, .inr ⟨rfl, r, bb, rfl, hm, h1, h2⟩, hb⟩
    · exact (rfrom_err2 (by omega) (by omega) hv he).out.mono fun e w' ⟨h1, hb⟩ => ⟨none, h1, .inl ⟨he, rfl⟩, hb⟩
end
/-- The pair of bitmaps. -/
structure Pr (w : World) (P p bw ba r bb b n : Nat) (W : List UInt64) : Prop where
  hP : Rw w P 35 [.pointer (some ⟨p, 0, none⟩), .pointer (some ⟨r, 0, none⟩), .pointer (some ⟨b, 0, none⟩)]
  hm : BM w p bw ba n W
  hr : RM w r bb (Bm.bools n W)
  dP : P ≠ p ∧ P ≠ bw ∧ P ≠ ba ∧ P ≠ r ∧ P ≠ bb
  dr : r ≠ p ∧ r ≠ bw ∧ r ≠ ba
  db : bb ≠ p ∧ bb ≠ bw ∧ bb ≠ ba
def Pr.At (P p bw ba r bb : Nat) (k : Nat) : Prop := k = P ∨ k = p ∨ k = bw ∨ k = ba ∨ k = r ∨ k = bb
theorem Pr.mod {F : Nat → Prop} {w w' : World} {P p bw ba r bb b n : Nat} {W : List UInt64} (h : Pr w P p bw ba r bb b n W) (hm : Mod F w w') (hF : ∀ k, Pr.At P p bw ba r bb k → ¬ F k) : Pr w' P p bw ba r bb b n W :=
  ⟨h.hP.mod hm (hF _ (.inl rfl)), h.hm.mod hm (hF _ (.inr (.inl rfl))) (hF _ (.inr (.inr (.inl rfl)))) (hF _ (.inr (.inr (.inr (.inl rfl))))), h.hr.mod hm (hF _ (.inr (.inr (.inr (.inr (.inl rfl)))))) (hF _ (.inr (.inr (.inr (.inr (.inr rfl)))))), h.dP, h.dr, h.db⟩
theorem Pr.below {w w' : World} {P p bw ba r bb b n : Nat} {W : List UInt64} (h : Pr w P p bw ba r bb b n W) (hb : Below w.heap.size w w') : Pr w' P p bw ba r bb b n W := h.mod (F := fun _ => False) (Mod.of_below hb) (fun _ _ => id)
theorem Pr.lt {w : World} {P p bw ba r bb b n : Nat} {W : List UInt64} (h : Pr w P p bw ba r bb b n W) : ∀ k, Pr.At P p bw ba r bb k → k < w.heap.size := by
  rintro k (rfl | rfl | rfl | rfl | rfl | rfl)
  · exact heap_lt h.hP
  · exact heap_lt h.hm.hs
  · exact heap_lt h.hm.hw
  · exact heap_lt h.hm.ha
  · exact heap_lt h.hr.hs
  · exact heap_lt h.hr.hb
end Go.Proofs.YtckbckdaffdjmaaDoor

/- made: both bitmaps, or neither. -/
namespace Go.Proofs.YtckbckdaffdjmaaDoor
open Go.RowKit
set_option maxRecDepth 100000
set_option linter.unusedVariables false
set_option linter.unusedSimpArgs false

/-- What made leaves at P. -/
def MadeP (w w' : World) (P b : Nat) (own' : Nat → Prop) : Prop :=
  w.heap.size ≤ P ∧ ¬ own' P ∧ (Rw w' P 35 [.pointer none, .pointer none, .pointer (some ⟨b, 0, none⟩)] ∨
    ∃ p bw ba r bb n W, Pr w' P p bw ba r bb b n W ∧ ∀ k, Pr.At P p bw ba r bb k → w.heap.size ≤ k ∧ ¬ own' k)
theorem MadeP.below {w w1 w' : World} {P b : Nat} {own' : Nat → Prop} (h : MadeP w w1 P b own') (hb : Below w1.heap.size w1 w') : MadeP w w' P b own' := by
  obtain ⟨h1, h2, h | ⟨p, bw, ba, r, bb, n, W, h3, h4⟩⟩ := h
  · exact ⟨h1, h2, .inl (h.below hb)⟩
  · exact ⟨h1, h2, .inr ⟨p, bw, ba, r, bb, n, W, h3.below hb, h4⟩⟩
theorem below_drewN (w : World) : ∀ k, Below w.heap.size w (w.drewN k)
  | 0 => Below.refl _ _
  | k + 1 => (below_drewN w k).drew
theorem made_post {w w1 w2 w3 w' : World} {P b : Nat} {own' : Nat → Prop} {q q' : Option Addr} {er : Nat} {n : Int} {W : List UInt64}
    (hq : GotB w1 w2 q er n W) (hq' : GotR w2 w3 q' er (Bm.bools n.toNat W)) (hs : w.heap.size ≤ P) (hP : P < w1.heap.size) (hs2 : w1.heap.size ≤ w2.heap.size)
    {F G : Nat → Prop} (hm2 : Mod F w2 w') (hm3 : Mod G w3 w') (hF : ∀ k, k < w2.heap.size → w1.heap.size ≤ k → ¬ F k) (hG : ∀ k, k < w3.heap.size → w2.heap.size ≤ k → ¬ G k)
    (hb : Rw w' P 35 [.pointer q, .pointer q', .pointer (some ⟨b, 0, none⟩)]) (hoP : ¬ own' P) (ho : ∀ k, w1.heap.size ≤ k → k < w3.heap.size → ¬ own' k) :
    MadeP w w' P b own' ∧ q.isNone = q'.isNone := by
  rcases hq with ⟨he, rfl⟩ | ⟨he, p, bw, ba, rfl, hm, h1, h2, h3⟩
  · rcases hq' with ⟨he', rfl⟩ | ⟨he', _⟩
    · exact ⟨⟨hs, hoP, .inl hb⟩, rfl⟩
    · exact absurd he' he
  · rcases hq' with ⟨he', rfl⟩ | ⟨he', r, bb, rfl, hr, h4, h5⟩
    · exact absurd he he'
    · have l1 := heap_lt hm.hs
      have l2 := heap_lt hm.hw
      have l3 := heap_lt hm.ha
      have l4 := heap_lt hr.hs
      have l5 := heap_lt hr.hb
      refine ⟨⟨hs, hoP, .inr ⟨p, bw, ba, r, bb, n.toNat, W, ⟨hb, hm.mod hm2 (hF _ l1 h1) (hF _ l2 h2) (hF _ l3 h3), hr.mod hm3 (hG _ l4 h4) (hG _ l5 h5), by omega, by omega, by omega⟩, ?_⟩⟩, rfl⟩
      rintro k (rfl | rfl | rfl | rfl | rfl | rfl)
      · exact ⟨hs, hoP⟩
      all_goals exact ⟨by omega, ho _ (by omega) (by omega)⟩
/-- The argument and the pair, just boxed. -/
theorem boxed (w : World) (fr : Bool) (n : Int) (xv : Value) (b : Nat) : ∃ w0 A P, w0 = (w.alloc (.cells #[.bool fr, .int .i64 n, xv] 24)).alloc (.cells #[.pointer none, .pointer none, .pointer (some ⟨b, 0, none⟩)] 35) ∧ A = w.heap.size ∧ P = w.heap.size + 1 ∧
    Rw w0 A 24 [.bool fr, .int .i64 n, xv] ∧ Rw w0 P 35 [.pointer none, .pointer none, .pointer (some ⟨b, 0, none⟩)] ∧ Below w.heap.size w w0 ∧ P < w0.heap.size := by
  refine ⟨_, _, _, rfl, rfl, rfl, (heap_old _ _ _ (by simp)).trans (heap_new _ _ _ rfl), heap_new _ _ _ (by simp), (below_alloc1 _ _).alloc (by simp) _, by simp⟩
set_option maxHeartbeats 4000000 in
theorem made_new {w : World} {b N : Nat} {own : Nat → Prop} {late : Bool} (hb : Bok w b own late N) {n : Int} (hn : (Lit.int .i64 n).wf = true) {xv : Value} {V : List UInt64} (hx : RU w xv V) :
    Calls Tryd.prog 17 #[.agg #[.bool false, .int .i64 n, xv], .pointer (some ⟨b, 0, none⟩)] w fun e w' => ∃ P own', e = .returned (.tuple #[.pointer (some ⟨P, 0, none⟩), .bool true]) ∧ MadeP w w' P b own' ∧ Bok w' b own' late (N + 2) ∧ (∀ k, k < w.heap.size → (own' k ↔ own k)) ∧ Mod own w w' := by
  have HB := Lib.hid hb
  obtain ⟨q, c, hxe⟩ := hx.form
  obtain ⟨L, hL⟩ : ∃ L, L = V.length := ⟨_, rfl⟩
  rw [← hL] at hxe
  clear hx hb hL
  subst hxe
  obtain ⟨w0, A, P, hw0, hA, hP, hra, hrp, hb0, hPl⟩ := boxed w false n (.slice q L c) b
  have HBX := Lib.hid (And.intro hb0 (And.intro hPl (And.intro hA hP)))
  go_enter Tryd.func17, Tryd.ntmps17
  go_upto_region 4 with fail
  rw [← hw0, ← hP, ← hA]
  have hne : A ≠ P := by omega
  have hne2 : P ≠ A := by omega
  have ca0 := hra.cell (i := 0) rfl
  have ca1 := hra.cell (i := 1) rfl
  have HRA := Lib.hid hra
  have HRP := Lib.hid hrp
  clear hw0 hA hP hb0 hPl hra hrp
  go_upto_region 13 with (first
    | (go_at_call 56
       refine (new_any hn).mono ?_
       rintro e w1 ⟨q1, rfl, hq1, hb1⟩
       have hrp1 := HRP.out.below hb1
       have cp1 := hrp1.cell (i := 0) rfl
       have fp1 := hrp1.frozen 0
       have HRP1 := Lib.hid hrp1
       have HRA1 := Lib.hid (HRA.out.below hb1)
       have HQ1 := Lib.hid hq1
       have HB1 := Lib.hid hb1
       clear hrp1 hq1 hb1)
    | fail)
  obtain ⟨w2, hw2⟩ : ∃ w2, w2 = w1.setCell ⟨P, 0, none⟩ (.pointer q1) := ⟨_, rfl⟩
  have hra2 := HRA1.out.other hne2 0 (.pointer q1)
  have hrp2 := HRP1.out.set 0 (.pointer q1)
  have hm12 : Mod (fun k => k = P) w1 w2 := by rw [hw2]; exact Mod.setCell _ _ _ _ rfl
  rw [← hw2] at hra2 hrp2 ⊢
  have HM12 := Lib.hid hm12
  have HRA2 := Lib.hid hra2
  have HRP2 := Lib.hid hrp2
  have ca2 := hra2.cell (i := 1) rfl
  clear ca0 ca1 cp1 fp1 hra2 hrp2 hm12 hw2
  go_upto_region 14 with (first
    | (go_at_call 57
       refine (rnew_any hn).mono ?_
       rintro e w3 ⟨q3, rfl, hq3, hb3⟩
       have hrp3 := HRP2.out.below hb3
       have cp3 := hrp3.cell (i := 1) rfl
       have fp3 := hrp3.frozen 1
       have HRP3 := Lib.hid hrp3
       have HQ3 := Lib.hid hq3
       have HB3 := Lib.hid hb3
       clear hrp3 hq3 hb3)
    | fail)
  obtain ⟨w4, hw4⟩ : ∃ w4, w4 = w3.setCell ⟨P, 1, none⟩ (.pointer q3) := ⟨_, rfl⟩
  have hrp4 := HRP3.out.set 1 (.pointer q3)
  have hm34 : Mod (fun k => k = P) w3 w4 := by rw [hw4]; exact Mod.setCell _ _ _ _ rfl
  rw [← hw4] at hrp4 ⊢
  have HM34 := Lib.hid hm34
  have cp40 := hrp4.cell (i := 0) rfl
  have cp41 := hrp4.cell (i := 1) rfl
  have HRP4 := Lib.hid hrp4
  clear cp3 fp3 hrp4 hm34 hw4 ca2
  obtain ⟨E, hE⟩ : ∃ E, E = Bm.errN n := ⟨_, rfl⟩
  rw [← hE] at HQ1 HQ3 ⊢
  clear hE
  obtain ⟨hb0, hPl, hA, hP⟩ := HBX.out
  have hs1 := HB1.out.size
  have hs2 := HM12.out.size
  have hs3 := HB3.out.size
  have hs4 := HM34.out.size
  have hbz : Bm.bools n.toNat (List.replicate (Bm.room n.toNat) 0) = List.replicate n.toNat false := Bm.bools_zero
  have hq3 := HQ3.out
  rw [← hbz] at hq3
  have hm04 : Mod (fun _ => False) w w4 := ((((Mod.of_below hb0).onB HB1.out).on HM12.out (fun k e => .inr (by omega))).onB HB3.out).on HM34.out (fun k e => .inr (by omega))
  have hm24 : Mod (fun k => k = P) w2 w4 := (Mod.of_below HB3.out).trans HM34.out
  have hbok := HB.out.mod hm04 (fun _ _ e => e.elim)
  have hlow := HB.out.lt
  have hpost' : MadeP w w4 P b own ∧ q1.isNone = q3.isNone := by
    have hq1 : GotB w0 w2 q1 E n (List.replicate (Bm.room n.toNat) 0) := by
      rcases HQ1.out with h | ⟨h1, p, bw, ba, h2, h3, h4, h5, h6⟩
      · exact .inl h
      · exact .inr ⟨h1, p, bw, ba, h2, h3.mod HM12.out (by omega) (by omega) (by omega), h4, h5, h6⟩
    exact made_post hq1 hq3 (by omega) hPl (by omega) hm24 HM34.out (fun k _ h e => by omega) (fun k _ h e => by omega) HRP4.out (fun e => by have := hlow _ e; omega) (fun k hk _ e => by have := hlow _ e; omega)
  obtain ⟨hpost, hni⟩ := hpost'
  have HF := Lib.hid (And.intro hpost (And.intro hbok hm04))
  have hni2 : (q1 = none ∧ q3 = none) ∨ (∃ a a', q1 = some a ∧ q3 = some a') := by
    cases q1 <;> cases q3 <;> simp at hni ⊢
  clear hq3 hbz hs1 hs2 hs3 hs4 hPl hA hP hlow hm04 hm24 hbok hb0 hpost hni hne hne2
  rcases hni2 with ⟨rfl, rfl⟩ | ⟨a, a', rfl, rfl⟩
  all_goals
    go_quiet (fail)
  all_goals
    go_wp2_with fail
    refine bodyPost_ret (results_tmp2 rfl _ _ _) rfl ?_
    have hd := below_drewN w4 nq
    exact ⟨P, own, rfl, HF.out.1.below hd, (HF.out.2.1.below hd).more (by omega), fun k _ => Iff.rfl, (HF.out.2.2.onB hd).mono fun _ _ e => e.elim⟩
end Go.Proofs.YtckbckdaffdjmaaDoor

/- made, by From. -/
namespace Go.Proofs.YtckbckdaffdjmaaDoor
open Go.RowKit
set_option maxRecDepth 100000
set_option linter.unusedVariables false
set_option linter.unusedSimpArgs false

set_option maxHeartbeats 8000000 in
theorem made_from {w : World} {b N : Nat} {own : Nat → Prop} {late : Bool} (hK : KeepC late) (hN : N + 2 ≤ 5864062014805) (hb : Bok w b own late N) {n : Int} (hn : (Lit.int .i64 n).wf = true) {xv : Value} {V : List UInt64} (hx : RU w xv V) (hV : V.length + 80 ≤ 17592186044416) :
    Calls Tryd.prog 17 #[.agg #[.bool true, .int .i64 n, xv], .pointer (some ⟨b, 0, none⟩)] w fun e w' => ∃ P own', e = .returned (.tuple #[.pointer (some ⟨P, 0, none⟩), .bool true]) ∧ MadeP w w' P b own' ∧ Bok w' b own' late (N + 2) ∧ (∀ k, k < w.heap.size → (own' k ↔ own k)) ∧ Mod own w w' := by
  have HB := Lib.hid hb
  have HX := Lib.hid hx
  have HV := Lib.hid hV
  have HN := Lib.hid hN
  have HK := Lib.hid hK
  obtain ⟨q, c, hxe⟩ := hx.form
  obtain ⟨L, hL⟩ : ∃ L, L = V.length := ⟨_, rfl⟩
  rw [← hL] at hxe
  clear hx hb hL hV hN hK
  subst hxe
  obtain ⟨w0, A, P, hw0, hA, hP, hra, hrp, hb0, hPl⟩ := boxed w true n (.slice q L c) b
  have HBX := Lib.hid (And.intro hb0 (And.intro hPl (And.intro hA hP)))
  have HX0 := Lib.hid (HX.out.below hb0)
  go_enter Tryd.func17, Tryd.ntmps17
  go_upto_region 4 with fail
  rw [← hw0, ← hP, ← hA]
  have hne : A ≠ P := by omega
  have hne2 : P ≠ A := by omega
  have ca0 := hra.cell (i := 0) rfl
  have ca1 := hra.cell (i := 1) rfl
  have ca2 := hra.cell (i := 2) rfl
  have HRA := Lib.hid hra
  have HRP := Lib.hid hrp
  clear hw0 hA hP hb0 hPl hra hrp
  have hcop := copied_calls HX0.out (by have := HV.out; omega)
  have HCC := Lib.hid hcop
  clear hcop
  go_upto_region 7 with (first
    | (go_at_call 19
       refine HCC.out.mono ?_
       rintro e w1 ⟨xi, rfl, hci, hb1⟩
       have hra1 := HRA.out.below hb1
       have cb0 := hra1.cell (i := 0) rfl
       have cb1 := hra1.cell (i := 1) rfl
       have cb2 := hra1.cell (i := 2) rfl
       have HRA1 := Lib.hid hra1
       have HRP1 := Lib.hid (HRP.out.below hb1)
       have HCI := Lib.hid hci
       have HB1 := Lib.hid hb1
       have hfr := from_any (w := w1) hn (hci.ru (by have := HV.out; omega))
       have HFR := Lib.hid hfr
       clear hra1 hci hb1 hfr)
    | (go_at_call 54
       refine HFR.out.mono ?_
       rintro e w2 ⟨q2, rfl, hq2, hb2⟩
       have hrp2 := HRP1.out.below hb2
       have cp2 := hrp2.cell (i := 0) rfl
       have fp2 := hrp2.frozen 0
       have HRP2 := Lib.hid hrp2
       have HRA2 := Lib.hid (HRA1.out.below hb2)
       have HQ2 := Lib.hid hq2
       have HB2 := Lib.hid hb2
       clear hrp2 hq2 hb2)
    | fail)
  obtain ⟨w3, hw3⟩ : ∃ w3, w3 = w2.setCell ⟨P, 0, none⟩ (.pointer q2) := ⟨_, rfl⟩
  have hra3 := HRA2.out.other hne2 0 (.pointer q2)
  have hrp3 := HRP2.out.set 0 (.pointer q2)
  have hm23 : Mod (fun k => k = P) w2 w3 := by rw [hw3]; exact Mod.setCell _ _ _ _ rfl
  rw [← hw3] at hra3 hrp3 ⊢
  have HM23 := Lib.hid hm23
  have HRA3 := Lib.hid hra3
  have HRP3 := Lib.hid hrp3
  have cc1 := hra3.cell (i := 1) rfl
  have cc2 := hra3.cell (i := 2) rfl
  have hmx3 : Mod (fun _ => False) w w3 := (((Mod.of_below HBX.out.1).onB HB1.out).onB HB2.out).on HM23.out fun k e => .inr (by have := HBX.out.2.2.2; omega)
  have hx3 : RU w3 (.slice q L c) V := HX.out.mod hmx3 (fun _ _ _ e => e)
  have HMX3 := Lib.hid hmx3
  have hfr := rfrom_any (w := w3) hn hx3
  have HFR3 := Lib.hid hfr
  have HX3 := Lib.hid hx3
  clear ca0 ca1 ca2 cb0 cb1 cb2 cp2 fp2 hra3 hrp3 hm23 hw3 hmx3 hx3 hfr
  go_upto_region 8 with (first
    | (go_at_call 55
       refine HFR3.out.mono ?_
       rintro e w4 ⟨q4, rfl, hq4, hb4⟩
       have hrp4 := HRP3.out.below hb4
       have cp4 := hrp4.cell (i := 1) rfl
       have fp4 := hrp4.frozen 1
       have HRP4 := Lib.hid hrp4
       have HRA4 := Lib.hid (HRA3.out.below hb4)
       have HQ4 := Lib.hid hq4
       have HB4 := Lib.hid hb4
       clear hrp4 hq4 hb4)
    | fail)
  obtain ⟨w5, hw5⟩ : ∃ w5, w5 = w4.setCell ⟨P, 1, none⟩ (.pointer q4) := ⟨_, rfl⟩
  have hra5 := HRA4.out.other hne2 1 (.pointer q4)
  have hrp5 := HRP4.out.set 1 (.pointer q4)
  have hm45 : Mod (fun k => k = P) w4 w5 := by rw [hw5]; exact Mod.setCell _ _ _ _ rfl
  rw [← hw5] at hra5 hrp5 ⊢
  have HM45 := Lib.hid hm45
  have HRA5 := Lib.hid hra5
  have HRP5 := Lib.hid hrp5
  have cd2 := hra5.cell (i := 2) rfl
  clear cp4 fp4 hra5 hrp5 hm45 hw5 cc1 cc2
  have hmx5 : Mod (fun _ => False) w w5 := (HMX3.out.onB HB4.out).on HM45.out fun k e => .inr (by have := HBX.out.2.2.2; omega)
  have hx5 : RU w5 (.slice q L c) V := HX.out.mod hmx5 (fun _ _ _ e => e)
  have hxiP : ∀ g, xi.ownBlock = some g → w0.heap.size ≤ g ∧ g < w1.heap.size := fun g e => (HCI.out.ou (by have := HV.out; omega)).lt g e
  have hm15 : Mod (fun k => k = P) w1 w5 := ((Mod.of_below HB2.out).trans HM23.out).trans ((Mod.of_below HB4.out).trans (HM45.out))
  have hci5 := HCI.out.mod hm15 (fun g e e' => by have h1 := (hxiP g e).1; have h2 := HBX.out.2.1; omega)
  have hint := intact_calls hci5 hx5 (by have := HV.out; omega)
  have HINT := Lib.hid hint
  have HMX5 := Lib.hid hmx5
  have HCI5 := Lib.hid hci5
  have HXIP := Lib.hid hxiP
  have HM15 := Lib.hid hm15
  clear hmx5 hx5 hxiP hm15 hci5 hint
  have HMX6 : Hid (∀ w6, Below w5.heap.size w5 w6 → Calls Tryd.prog 23 #[.pointer (some ⟨b, 0, none⟩), xi] w6 fun e w' => e = .returned (.tuple #[]) ∧ ∃ own', Bok w' b own' late (N + 2) ∧ (∀ k, k < w6.heap.size → (own' k ↔ own k ∨ xi.ownBlock = some k)) ∧ Mod (fun k => own k ∨ xi.ownBlock = some k) w6 w') := Lib.hid fun w6 hb6 =>
    HK.out.run (HB.out.mod (HMX5.out.onB hb6) (fun _ _ e => e.elim)) (((HCI5.out.below hb6).ou (by have := HV.out; omega)).more (Nat.zero_le _)) HV.out (fun g e e' => by have h1 := (HXIP.out g e).1; have h2 := HB.out.lt g e'; have h3 := HBX.out.1.size; omega) HN.out
  go_upto_region 14 with (first
    | (go_at_call 25
       refine HINT.out.out.mono ?_
       rintro e w6 ⟨rfl, hb6⟩
       have HB6 := Lib.hid hb6
       clear hb6)
    | (go_at_call 23
       refine (HMX6.out w6 HB6.out).mono ?_
       rintro e w7 ⟨rfl, own', hbok7, hlow7, hm7⟩
       have HBOK7 := Lib.hid hbok7
       have HLOW7 := Lib.hid hlow7
       have HM7 := Lib.hid hm7
       clear hbok7 hlow7 hm7)
    | fail)
  obtain ⟨E, hE⟩ : ∃ E, E = Bm.errF n V := ⟨_, rfl⟩
  rw [← hE] at HQ2 HQ4 ⊢
  clear hE
  obtain ⟨hb0, hPl, hA, hP⟩ := HBX.out
  have hs0 := hb0.size
  have hs1 := HB1.out.size
  have hs2 := HB2.out.size
  have hs3 := HM23.out.size
  have hs4 := HB4.out.size
  have hs5 := HM45.out.size
  have hs6 := HB6.out.size
  have hs7 := HM7.out.size
  have hxi := HXIP.out
  have hown := HB.out.lt
  have hm07 : Mod own w w7 := ((HMX5.out.onB HB6.out).mono (fun _ _ e => e.elim)).on HM7.out (fun k e => e.elim .inl fun e => .inr (by have := hxi k e; omega))
  have hnP : ¬ (own P ∨ xi.ownBlock = some P) := fun e => e.elim (fun e => by have := hown _ e; omega) (fun e => by have := hxi _ e; omega)
  have hrp7 := (HRP5.out.below HB6.out).mod HM7.out hnP
  have hm57 : Mod (fun k => own k ∨ xi.ownBlock = some k) w5 w7 := (Mod.of_below HB6.out).trans HM7.out
  have hm47 : Mod (fun k => k = P ∨ own k ∨ xi.ownBlock = some k) w4 w7 := (HM45.out.mono fun _ _ e => .inl e).trans (hm57.mono fun _ _ e => .inr e)
  have hm37 : Mod (fun k => k = P ∨ own k ∨ xi.ownBlock = some k) w3 w7 := (Mod.of_below HB4.out).trans hm47
  have hFF : ∀ k, w1.heap.size ≤ k → ¬ (k = P ∨ own k ∨ xi.ownBlock = some k) := fun k hk e => by
    rcases e with e | e | e
    · omega
    · have := hown _ e; omega
    · have := hxi _ e; omega
  have hpost' : MadeP w w7 P b own' ∧ q2.isNone = q4.isNone := by
    have hq1 : GotB w1 w3 q2 E n V := by
      rcases HQ2.out with h | ⟨h1, p, bw, ba, h2, h3, h4, h5, h6⟩
      · exact .inl h
      · exact .inr ⟨h1, p, bw, ba, h2, h3.mod HM23.out (by omega) (by omega) (by omega), h4, h5, h6⟩
    refine made_post hq1 HQ4.out (by omega) (by omega) (by omega) hm37 hm47 (fun k _ h => hFF k h) (fun k _ h => hFF k (by omega)) hrp7 (fun e => hnP ((HLOW7.out P (by omega)).1 e)) (fun k h1 h2 e => hFF k h1 (.inr ((HLOW7.out k (by omega)).1 e)))
  obtain ⟨hpost, hni⟩ := hpost'
  have hlow : ∀ k, k < w.heap.size → (own' k ↔ own k) := fun k hk => (HLOW7.out k (by omega)).trans ⟨fun e => e.elim id fun e => by have := hxi k e; omega, .inl⟩
  have hp0 := hrp7.cell (i := 0) rfl
  have hp1 := hrp7.cell (i := 1) rfl
  have HF := Lib.hid (And.intro hpost (And.intro HBOK7.out (And.intro hlow hm07)))
  have hni2 : (q2 = none ∧ q4 = none) ∨ (∃ a a', q2 = some a ∧ q4 = some a') := by
    cases q2 <;> cases q4 <;> simp at hni ⊢
  clear hs0 hs1 hs2 hs3 hs4 hs5 hs6 hs7 hPl hA hP hxi hown hm07 hnP hrp7 hm57 hm47 hm37 hFF hb0 hpost hni hlow hne hne2 cd2
  rcases hni2 with ⟨rfl, rfl⟩ | ⟨a, a', rfl, rfl⟩
  all_goals
    go_quiet (fail)
  all_goals
    go_wp2_with fail
    refine bodyPost_ret (results_tmp2 rfl _ _ _) rfl ?_
    have hd := below_drewN w7 nq
    exact ⟨P, own', rfl, HF.out.1.below hd, HF.out.2.1.below hd, HF.out.2.2.1, HF.out.2.2.2.onB hd⟩
end Go.Proofs.YtckbckdaffdjmaaDoor

/- ask: Len, Count, Words, Summary. -/
namespace Go.Proofs.YtckbckdaffdjmaaDoor
open Go.RowKit
set_option maxRecDepth 100000
set_option linter.unusedVariables false
set_option linter.unusedSimpArgs false

/-- The question, just boxed. -/
theorem boxedOp (w : World) (cs : List Value) : ∃ w0 A, w0 = w.alloc (.cells cs.toArray 39) ∧ A = w.heap.size ∧ Rw w0 A 39 cs ∧ Below w.heap.size w w0 :=
  ⟨_, _, rfl, rfl, heap_new _ _ _ rfl, below_alloc1 _ _⟩
/-- What a call of the pair is told by. -/
structure PrB (w : World) (P p bw ba r bb b n : Nat) (W : List UInt64) (own : Nat → Prop) (late : Bool) (N : Nat) : Prop where
  pr : Pr w P p bw ba r bb b n W
  bk : Bok w b own late N
  no : ∀ k, Pr.At P p bw ba r bb k → ¬ own k
theorem PrB.below {w w' : World} {P p bw ba r bb b n N : Nat} {W : List UInt64} {own : Nat → Prop} {late : Bool} (h : PrB w P p bw ba r bb b n W own late N) (hb : Below w.heap.size w w') : PrB w' P p bw ba r bb b n W own late N := ⟨h.pr.below hb, h.bk.below hb, h.no⟩
/-- What an answer of the pair leaves. -/
def AskP (w : World) (b : Nat) (own : Nat → Prop) (late : Bool) (N : Nat) (e : Ending) (w' : World) : Prop :=
  e = .returned (.bool true) ∧ ∃ own', Bok w' b own' late (N + 2) ∧ (∀ k, k < w.heap.size → (own' k ↔ own k)) ∧ Mod own w w'
theorem AskP.pure {w w' : World} {b N : Nat} {own : Nat → Prop} {late : Bool} (hb : Bok w b own late N) (h : Below w.heap.size w w') : AskP w b own late N (.returned (.bool true)) w' :=
  ⟨rfl, own, (hb.below h).more (by omega), fun _ _ => Iff.rfl, Mod.of_below h⟩
set_option maxHeartbeats 8000000 in
theorem ask_len {w : World} {P p bw ba r bb b n N : Nat} {W : List UInt64} {own : Nat → Prop} {late : Bool} (h : PrB w P p bw ba r bb b n W own late N) (s2 wv bf ac ag : Value) (A B : Int) :
    Calls Tryd.prog 18 #[.pointer (some ⟨P, 0, none⟩), .agg #[.int .i64 11, s2, .int .i64 A, .int .i64 B, wv, bf, ac, ag]] w (AskP w b own late N) := by
  obtain ⟨w0, D, hw0, hD, hrd, hb0⟩ := boxedOp w [.int .i64 11, s2, .int .i64 A, .int .i64 B, wv, bf, ac, ag]
  have HH := Lib.hid h
  have h0 := h.below hb0
  have HB0 := Lib.hid hb0
  have cd0 := hrd.cell (i := 0) rfl
  have cp0 := h0.pr.hP.cell (i := 0) rfl
  have cp1 := h0.pr.hP.cell (i := 1) rfl
  have lp := heap_lt h0.pr.hP
  have lr := heap_lt h0.pr.hr.hs
  have HM := Lib.hid h0.pr.hm
  have cr0 := h0.pr.hr.hs.cell (i := 0) rfl
  rw [Bm.bools_length] at cr0
  go_enter Tryd.func18, Tryd.ntmps18
  go_upto_region 1 with fail
  rw [← hw0, ← hD]
  clear h hrd hw0 hD h0
  go_upto_region 17 with fail
  refine wp_region_R (Below w0.heap.size w0) (by kernel_rfl) (by kernel_rfl) (by first | exact Below.refl _ _ | exact below_alloc1 _ _ | exact below_alloc2 _ _ _ | exact below_alloc3 _ _ _ _ | (repeat' (first | assumption | exact Below.refl _ _ | exact below_alloc1 _ _ | exact below_alloc2 _ _ _ | exact below_alloc3 _ _ _ _ | (refine Below.drew ?_) | (refine below_wb ?_ ?_) | (refine Below.alloc ?_ ?_ _) | omega | (simp; done) | (simp; omega)))) ?_
  (repeat (first | (apply wpR_pass rfl; (try simp only [Act.put, List.setIfInBounds_toArray, List.set_cons_succ, List.set_cons_zero])) | (apply wpR_val rfl; (focus (intro w1 hR; obtain ⟨hc, hf⟩ := bcellB hR; (try go_simp); (try exact Eq.refl _); done)); (try simp only [Act.put, List.setIfInBounds_toArray, List.set_cons_succ, List.set_cons_zero])) | (apply wpR_call rfl; (focus (intro w1 hR; obtain ⟨hc, hf⟩ := bcellB hR; (try go_simp); (try exact And.intro rfl rfl); done)); (focus (intro w1 hR; first | exact (len_calls (HM.out.below hR)).at_ (by first | omega | (simp; done) | (simp; omega)) hR)); (try simp only [Act.put, List.setIfInBounds_toArray, List.set_cons_succ, List.set_cons_zero])) | (apply wpR_val_want rfl; (focus (intro w1 hR; obtain ⟨hc, hf⟩ := bcellB hR; (try go_simp); (try exact Eq.refl _); done)); (try simp only [Act.put, List.setIfInBounds_toArray, List.set_cons_succ, List.set_cons_zero])) | (apply wpR_call_want rfl; (focus (intro w1 hR; obtain ⟨hc, hf⟩ := bcellB hR; (try go_simp); (try exact And.intro rfl rfl); done)); (focus (intro w1 hR; first | exact (len_calls (HM.out.below hR)).at_ (by first | omega | (simp; done) | (simp; omega)) hR)); (try simp only [Act.put, List.setIfInBounds_toArray, List.set_cons_succ, List.set_cons_zero]))))
  refine wpR_nil (fun w1 hb1 => ?_)
  go_wp2_with fail
  go_ret
  exact AskP.pure HH.out.bk (HB0.out.trans (hb1.mono HB0.out.size))
theorem cnt_bools {n : Nat} {W : List UInt64} (h : Bm.Ok n W) : Bm.cnt (fun i => (Bm.bools n W).getD i false) 0 (Bm.bools n W).length = Bm.ones' W := by
  rw [Bm.ones_ok h, Bm.bools_length]
  exact Bm.cnt_congr n fun t ht => by rw [Nat.zero_add, Bm.bools_getD, decide_eq_true ht, Bool.true_and]
set_option maxHeartbeats 8000000 in
theorem ask_count {w : World} {P p bw ba r bb b n N : Nat} {W : List UInt64} {own : Nat → Prop} {late : Bool} (h : PrB w P p bw ba r bb b n W own late N) (s2 wv bf ac ag : Value) (A B : Int) :
    Calls Tryd.prog 18 #[.pointer (some ⟨P, 0, none⟩), .agg #[.int .i64 7, s2, .int .i64 A, .int .i64 B, wv, bf, ac, ag]] w (AskP w b own late N) := by
  obtain ⟨w0, D, hw0, hD, hrd, hb0⟩ := boxedOp w [.int .i64 7, s2, .int .i64 A, .int .i64 B, wv, bf, ac, ag]
  have HH := Lib.hid h
  have h0 := h.below hb0
  have HB0 := Lib.hid hb0
  have cd0 := hrd.cell (i := 0) rfl
  have cp0 := h0.pr.hP.cell (i := 0) rfl
  have cp1 := h0.pr.hP.cell (i := 1) rfl
  have lp := heap_lt h0.pr.hP
  have lr := heap_lt h0.pr.hr.hs
  have HM := Lib.hid h0.pr.hm
  have HR : Hid (∀ w1, Below w0.heap.size w0 w1 → Pur Tryd.prog 59 #[.pointer (some ⟨r, 0, none⟩)] w1 (.int .i64 (Bm.ones' W : Nat))) := Lib.hid fun w1 hR => by
    rw [← cnt_bools h0.pr.hm.ok]; exact rcount_calls (h0.pr.hr.below hR)
  go_enter Tryd.func18, Tryd.ntmps18
  go_upto_region 1 with fail
  rw [← hw0, ← hD]
  clear h hrd hw0 hD h0
  go_upto_region 7 with fail
  refine wp_region_R (Below w0.heap.size w0) (by kernel_rfl) (by kernel_rfl) (by first | exact Below.refl _ _ | exact below_alloc1 _ _ | exact below_alloc2 _ _ _ | exact below_alloc3 _ _ _ _ | (repeat' (first | assumption | exact Below.refl _ _ | exact below_alloc1 _ _ | exact below_alloc2 _ _ _ | exact below_alloc3 _ _ _ _ | (refine Below.drew ?_) | (refine below_wb ?_ ?_) | (refine Below.alloc ?_ ?_ _) | omega | (simp; done) | (simp; omega)))) ?_
  (repeat (first | (apply wpR_pass rfl; (try simp only [Act.put, List.setIfInBounds_toArray, List.set_cons_succ, List.set_cons_zero])) | (apply wpR_val rfl; (focus (intro w1 hR; obtain ⟨hc, hf⟩ := bcellB hR; (try go_simp); (try exact Eq.refl _); done)); (try simp only [Act.put, List.setIfInBounds_toArray, List.set_cons_succ, List.set_cons_zero])) | (apply wpR_call rfl; (focus (intro w1 hR; obtain ⟨hc, hf⟩ := bcellB hR; (try go_simp); (try exact And.intro rfl rfl); done)); (focus (intro w1 hR; first | exact (count_calls (HM.out.below hR)).at_ (by first | omega | (simp; done) | (simp; omega)) hR | exact (HR.out w1 hR).at_ (by first | omega | (simp; done) | (simp; omega)) hR)); (try simp only [Act.put, List.setIfInBounds_toArray, List.set_cons_succ, List.set_cons_zero])) | (apply wpR_val_want rfl; (focus (intro w1 hR; obtain ⟨hc, hf⟩ := bcellB hR; (try go_simp); (try exact Eq.refl _); done)); (try simp only [Act.put, List.setIfInBounds_toArray, List.set_cons_succ, List.set_cons_zero])) | (apply wpR_call_want rfl; (focus (intro w1 hR; obtain ⟨hc, hf⟩ := bcellB hR; (try go_simp); (try exact And.intro rfl rfl); done)); (focus (intro w1 hR; first | exact (count_calls (HM.out.below hR)).at_ (by first | omega | (simp; done) | (simp; omega)) hR | exact (HR.out w1 hR).at_ (by first | omega | (simp; done) | (simp; omega)) hR)); (try simp only [Act.put, List.setIfInBounds_toArray, List.set_cons_succ, List.set_cons_zero]))))
  refine wpR_nil (fun w1 hb1 => ?_)
  go_wp2_with fail
  go_ret
  exact AskP.pure HH.out.bk (HB0.out.trans (hb1.mono HB0.out.size))
theorem NewU.ou {w w' : World} {v : Value} {W : List UInt64} (h : NewU w w' v W) (hl : W.length ≤ 17592186044416) : OU w.heap.size w' v W := by
  obtain ⟨g, rfl, h4, h3, _⟩ := h
  refine ⟨⟨by simp, .inr ⟨g, W.length, (W.map uv).toArray, rfl, h3, h4, Nat.le_refl _, by simp only [maxLen]; omega, by simp, ?_⟩⟩, hl⟩
  simp
  exact List.take_of_length_le (by simp)
theorem NewU.bel {w w' : World} {v : Value} {W : List UInt64} (h : NewU w w' v W) : Below w.heap.size w w' := h.elim fun _ h => h.2.2.2
set_option maxHeartbeats 8000000 in
theorem ask_words {w : World} {P p bw ba r bb b n N : Nat} {W : List UInt64} {own : Nat → Prop} {late : Bool} (hK : KeepC late) (hN : N + 2 ≤ 5864062014805) (h : PrB w P p bw ba r bb b n W own late N) (s2 wv bf ac ag : Value) (A B : Int) :
    Calls Tryd.prog 18 #[.pointer (some ⟨P, 0, none⟩), .agg #[.int .i64 12, s2, .int .i64 A, .int .i64 B, wv, bf, ac, ag]] w (AskP w b own late N) := by
  obtain ⟨w0, D, hw0, hD, hrd, hb0⟩ := boxedOp w [.int .i64 12, s2, .int .i64 A, .int .i64 B, wv, bf, ac, ag]
  have HH := Lib.hid h
  have h0 := h.below hb0
  have HB0 := Lib.hid hb0
  have H0 := Lib.hid h0
  have HK := Lib.hid hK
  have HN := Lib.hid hN
  have cd0 := hrd.cell (i := 0) rfl
  have cp0 := h0.pr.hP.cell (i := 0) rfl
  have cp1 := h0.pr.hP.cell (i := 1) rfl
  have cp2 := h0.pr.hP.cell (i := 2) rfl
  have HWL : Hid (W.length ≤ 1024) := Lib.hid (by rw [h0.pr.hm.ok.len]; exact h0.pr.hm.room_le.1)
  go_enter Tryd.func18, Tryd.ntmps18
  go_upto_region 1 with fail
  rw [← hw0, ← hD]
  clear h hrd hw0 hD h0 hK hN hb0
  go_wp2_with (first
    | (go_at_call 32
       refine (words_calls H0.out.pr.hm).mono ?_
       rintro e w1 ⟨v1, rfl, hn1⟩
       have hb1 := hn1.bel
       have h1 := H0.out.below hb1
       have cq0 := h1.pr.hP.cell (i := 0) rfl
       have cq1 := h1.pr.hP.cell (i := 1) rfl
       have cq2 := h1.pr.hP.cell (i := 2) rfl
       have H1 := Lib.hid h1
       have HB1 := Lib.hid hb1
       have HN1 := Lib.hid hn1
       clear hb1 h1 hn1)
    | (go_at_call 63
       refine (rwords_calls H1.out.pr.hr).mono ?_
       rintro e w2 ⟨v2, rfl, hn2⟩
       rw [Bm.pack_bools H1.out.pr.hm.ok] at hn2
       have hb2 := hn2.bel
       have h2 := H1.out.below hb2
       have H2 := Lib.hid h2
       have HB2 := Lib.hid hb2
       have HN2 := Lib.hid hn2
       have hsw := sameWords_calls (((HN1.out.ou (by have := HWL.out; omega)).ru).below hb2) (hn2.ru (by have := HWL.out; omega))
       have HSW := Lib.hid hsw
       clear hb2 h2 hn2 hsw)
    | (go_at_call 22
       refine HSW.out.out.mono ?_
       rintro e w3 ⟨rfl, hb3⟩
       have h3 := H2.out.below hb3
       have cr2 := h3.pr.hP.cell (i := 2) rfl
       have H3 := Lib.hid h3
       have HB3 := Lib.hid hb3
       clear hb3 h3)
    | (go_at_call 23
       have hO3 := ((HN1.out.ou (by have := HWL.out; omega)).below HB2.out).below HB3.out
       refine (HK.out.run H3.out.bk (hO3.more (Nat.zero_le _)) (by have := HWL.out; omega) (fun g e e' => by have h1 := (hO3.lt g e).1; have h2 := HH.out.bk.lt g e'; have h3 := HB0.out.size; omega) HN.out).mono ?_
       rintro e w4 ⟨rfl, own', hbok, hlow, hm⟩
       have HO3 := Lib.hid hO3
       have HBOK := Lib.hid hbok
       have HLOW := Lib.hid hlow
       have HM := Lib.hid hm
       clear hO3 hbok hlow hm)
    | fail)
  go_ret
  have hs0 := HB0.out.size
  have hs1 := HB1.out.size
  have hs2 := HB2.out.size
  have hs3 := HB3.out.size
  have hlt := fun g e => (HO3.out.lt g e).1
  refine ⟨rfl, own', HBOK.out, fun k hk => (HLOW.out k (by omega)).trans ⟨fun e => e.elim id fun e => by have := hlt k e; omega, .inl⟩, ?_⟩
  exact ((((Mod.of_below HB0.out).onB HB1.out).onB HB2.out).onB HB3.out).on HM.out (fun k e => e.elim .inl fun e => .inr (by have := hlt k e; omega))
set_option maxHeartbeats 8000000 in
theorem ask_summary {w : World} {P p bw ba r bb b n N : Nat} {W : List UInt64} {own : Nat → Prop} {late : Bool} (hK : KeepC late) (hN : N + 2 ≤ 5864062014805) (h : PrB w P p bw ba r bb b n W own late N) (s2 wv bf ac ag : Value) (A B : Int) :
    Calls Tryd.prog 18 #[.pointer (some ⟨P, 0, none⟩), .agg #[.int .i64 13, s2, .int .i64 A, .int .i64 B, wv, bf, ac, ag]] w (AskP w b own late N) := by
  obtain ⟨w0, D, hw0, hD, hrd, hb0⟩ := boxedOp w [.int .i64 13, s2, .int .i64 A, .int .i64 B, wv, bf, ac, ag]
  have HH := Lib.hid h
  have h0 := h.below hb0
  have HB0 := Lib.hid hb0
  have H0 := Lib.hid h0
  have HK := Lib.hid hK
  have HN := Lib.hid hN
  have cd0 := hrd.cell (i := 0) rfl
  have cp0 := h0.pr.hP.cell (i := 0) rfl
  have cp1 := h0.pr.hP.cell (i := 1) rfl
  have cp2 := h0.pr.hP.cell (i := 2) rfl
  have HWL : Hid ((Bm.upper W).length ≤ 1024) := Lib.hid (by rw [Bm.upper_length, h0.pr.hm.ok.len]; have := h0.pr.hm.room_le.2; omega)
  go_enter Tryd.func18, Tryd.ntmps18
  go_upto_region 1 with fail
  rw [← hw0, ← hD]
  clear h hrd hw0 hD h0 hK hN hb0
  go_wp2_with (first
    | (go_at_call 64
       refine (summary_calls H0.out.pr.hm).mono ?_
       rintro e w1 ⟨v1, rfl, hn1⟩
       have hb1 := hn1.bel
       have h1 := H0.out.below hb1
       have cq0 := h1.pr.hP.cell (i := 0) rfl
       have cq1 := h1.pr.hP.cell (i := 1) rfl
       have cq2 := h1.pr.hP.cell (i := 2) rfl
       have H1 := Lib.hid h1
       have HB1 := Lib.hid hb1
       have HN1 := Lib.hid hn1
       clear hb1 h1 hn1)
    | (go_at_call 65
       refine (rsummary_calls H1.out.pr.hr).mono ?_
       rintro e w2 ⟨v2, rfl, hn2⟩
       rw [Bm.pack_bools H1.out.pr.hm.ok] at hn2
       have hb2 := hn2.bel
       have h2 := H1.out.below hb2
       have H2 := Lib.hid h2
       have HB2 := Lib.hid hb2
       have HN2 := Lib.hid hn2
       have hsw := sameWords_calls (((HN1.out.ou (by have := HWL.out; omega)).ru).below hb2) (hn2.ru (by have := HWL.out; omega))
       have HSW := Lib.hid hsw
       clear hb2 h2 hn2 hsw)
    | (go_at_call 22
       refine HSW.out.out.mono ?_
       rintro e w3 ⟨rfl, hb3⟩
       have h3 := H2.out.below hb3
       have cr2 := h3.pr.hP.cell (i := 2) rfl
       have H3 := Lib.hid h3
       have HB3 := Lib.hid hb3
       clear hb3 h3)
    | (go_at_call 23
       have hO3 := ((HN1.out.ou (by have := HWL.out; omega)).below HB2.out).below HB3.out
       refine (HK.out.run H3.out.bk (hO3.more (Nat.zero_le _)) (by have := HWL.out; omega) (fun g e e' => by have h1 := (hO3.lt g e).1; have h2 := HH.out.bk.lt g e'; have h3 := HB0.out.size; omega) HN.out).mono ?_
       rintro e w4 ⟨rfl, own', hbok, hlow, hm⟩
       have HO3 := Lib.hid hO3
       have HBOK := Lib.hid hbok
       have HLOW := Lib.hid hlow
       have HM := Lib.hid hm
       clear hO3 hbok hlow hm)
    | fail)
  go_ret
  have hs0 := HB0.out.size
  have hs1 := HB1.out.size
  have hs2 := HB2.out.size
  have hs3 := HB3.out.size
  have hlt := fun g e => (HO3.out.lt g e).1
  refine ⟨rfl, own', HBOK.out, fun k hk => (HLOW.out k (by omega)).trans ⟨fun e => e.elim id fun e => by have := hlt k e; omega, .inl⟩, ?_⟩
  exact ((((Mod.of_below HB0.out).onB HB1.out).onB HB2.out).onB HB3.out).on HM.out (fun k e => e.elim .inl fun e => .inr (by have := hlt k e; omega))
end Go.Proofs.YtckbckdaffdjmaaDoor
