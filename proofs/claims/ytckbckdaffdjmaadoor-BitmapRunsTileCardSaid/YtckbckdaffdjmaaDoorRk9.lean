/- Walks and plain laws of the packets and frames, joined from: TiM, LwOp, LdT. -/
import Derived.Test.YtckbckdaffdjmaaDoorRk8
import Derived.Sort.CutIn
/- The statement BitmapRunsTile: every input. -/
namespace Go.Proofs.YtckbckdaffdjmaaDoor
open Go.RowKit
attribute [local go_sem] Oper.semAt_some
set_option maxRecDepth 100000
set_option linter.unusedVariables false
set_option linter.unusedSimpArgs false

set_option maxHeartbeats 16000000 in
theorem tile_main {w : World} {n : Nat} {v sv : Value} {V : List UInt64} {ops : List OpV} (hok : Bm.Ok n V) (hv : RU w v V) (hs : SlOp w sv ops) (hT : Tz w) :
    Pur Tryd.prog 9 #[.int .i64 n, v, sv] w (.bool true) := by
  unfold Pur
  obtain ⟨w1, hw1⟩ : ∃ w1, w1 = (w.alloc (.cells #[.int .i64 n] 3)).alloc (.cells #[.bool false] 4) := ⟨_, rfl⟩
  have r3 : Rw w1 w.heap.size 3 [.int .i64 (n : Nat)] := by rw [hw1]; exact (heap_old _ _ _ (by simp)).trans (heap_new _ _ _ rfl)
  have r6 : Rw w1 (w.heap.size + 1) 4 [.bool false] := by rw [hw1]; exact heap_new _ _ _ (by simp)
  have hb1 : Below w.heap.size w w1 := by rw [hw1]; exact (below_alloc1 _ _).alloc (by simp) _
  obtain ⟨B3, hB3⟩ : ∃ B, B = w.heap.size := ⟨_, rfl⟩
  obtain ⟨B6, hB6⟩ : ∃ B, B = B3 + 1 := ⟨_, rfl⟩
  rw [← hB3] at r3 r6
  rw [← hB6] at r6
  have hmx := hok.max
  have hpos := hok.pos
  have hli := lawlisted_calls (n := n) (hv.below hb1) (wf_nat (by omega))
  rw [show Bm.listedB n V = true by unfold Bm.listedB; rw [decide_eq_true (by omega), Int.toNat_natCast, Bm.valid_of_ok hok]; rfl] at hli
  have HLI := Lib.hid hli
  have HOK := Lib.hid hok
  have HV := Lib.hid hv
  have HS := Lib.hid hs
  have HT := Lib.hid hT
  have HB1 := Lib.hid hb1
  have HR3 := Lib.hid r3
  have HR6 := Lib.hid r6
  have HBB := Lib.hid (And.intro hB3 hB6)
  have c3 := r3.cell (i := 0) rfl
  have l3 := heap_lt r3
  obtain ⟨vp, vc, hve⟩ := hv.form
  obtain ⟨sp, sc, hse, -, -⟩ := hs
  generalize V.length = VL at hve
  generalize ops.length = SL at hse
  subst hve hse
  clear hok hv hT hli hpos r3 r6 hb1
  (refine callsIn_wide (n := 0).1 (callsIn_of_wp_marks Tryd.func9 rfl trivial (wpIn_wide.2 ?_) rfl); simp only [Tryd.ntmps9, List.size_toArray, List.length_cons, List.length_nil, Nat.reduceAdd, Nat.reduceSub, Array.replicate_succ, Array.replicate_zero, List.push_toArray, List.append_toArray, List.nil_append, List.cons_append])
  go_upto_region 1 with fail
  rw [← hB3, ← hB6, ← hw1]
  clear hw1 hB3 hB6
  go_upto_region 4 with (first
    | (go_at_call 26; refine HLI.out.out.mono ?_; clear HLI; rintro e w2 ⟨rfl, hbw⟩
       have d3 := ((bcell hbw).1 _ 0 l3).trans c3
       have hb12 := HB1.out.trans (hbw.mono HB1.out.size)
       have hl := lawlay_calls HOK.out (HV.out.below hb12) (HS.out.below hb12)
       have HB2 := Lib.hid hbw
       have HL := Lib.hid hl
       clear hbw hl hb12)
    | fail)
  clear c3
  go_upto_region 5 with (first
    | (go_at_call 27; refine HL.out.mono ?_; clear HL; rintro e w3 ⟨p, bw, ba, W, rfl, hm, hp1, hp2, hp3, hbw⟩
       have HM3 := Lib.hid hm
       have HB3' := Lib.hid hbw
       have HP := Lib.hid (And.intro hp1 (And.intro hp2 hp3))
       clear hm hp1 hp2 hp3 hbw)
    | fail)
  clear d3
  obtain ⟨w4, hw4⟩ : ∃ w4, w4 = w3.alloc (.cells #[.pointer (some ⟨p, 0, none⟩)] 32) := ⟨_, rfl⟩
  obtain ⟨B8, hB8⟩ : ∃ B, B = w3.heap.size := ⟨_, rfl⟩
  have r8 : Rw w4 B8 32 [.pointer (some ⟨p, 0, none⟩)] := by rw [hw4, hB8]; exact heap_new _ _ _ rfl
  have hb4 : Below w3.heap.size w3 w4 := by rw [hw4]; exact below_alloc1 _ _
  have c8 := r8.cell (i := 0) rfl
  rw [← hw4, ← hB8]
  have HR8 := Lib.hid r8
  have HB4 := Lib.hid hb4
  have HB8 := Lib.hid hB8
  clear r8 hb4 hw4 hB8
  go_upto_region 8 with (first
    | (go_at_call 38; refine runs_calls.mono ?_; rintro e w5 ⟨C, rfl, hC, hrc, hb5⟩
       have HRC := Lib.hid hrc
       have HB5 := Lib.hid hb5
       have HHC := Lib.hid hC
       clear hrc hb5 hC)
    | fail)
  clear c8
  have hfn : ∀ X, (binOp .eql 65 (.func (.func 73) #[] #[.pointer (some ⟨C, 0, none⟩)]) .nilFunc).run Tryd.prog X = .ok (.bool false) X := fun X => by kernel_rfl
  go_upto_region 12 with fail
  obtain ⟨Y, hY⟩ : ∃ Y, Y = (w5.alloc (.cells #[.int .i64 0] 3)).alloc (.cells #[.int .i64 0] 3) := ⟨_, rfl⟩
  obtain ⟨B10, hB10⟩ : ∃ B, B = w5.heap.size := ⟨_, rfl⟩
  obtain ⟨B11, hB11⟩ : ∃ B, B = B10 + 1 := ⟨_, rfl⟩
  have r10 : Rw Y B10 3 [.int .i64 ((0 : Nat) : Int)] := by rw [hY, hB10]; exact (heap_old _ _ _ (by simp)).trans (heap_new _ _ _ rfl)
  have r11 : Rw Y B11 3 [.int .i64 ((0 : Nat) : Int)] := by rw [hY, hB11, hB10]; exact heap_new _ _ _ (by simp)
  have hbY : Below w5.heap.size w5 Y := by rw [hY]; exact (below_alloc1 _ _).alloc (by simp) _
  obtain ⟨m, hm⟩ : ∃ m : TiN, m = ⟨B3, B6, B8, B10, B11, C⟩ := ⟨_, rfl⟩
  have hti : TiI w Y m p bw ba n Y.heap.size W (W, 0) := by
    obtain ⟨q1, q2⟩ := HBB.out
    obtain ⟨p1, p2, p3⟩ := HP.out
    have s1 := HB1.out.size
    have s2 := HB2.out.size
    have s3 := HB3'.out.size
    have s4 := HB4.out.size
    have s5 := HB5.out.size
    have sY := hbY.size
    have l6 := heap_lt HR6.out
    have l8 := heap_lt HR8.out
    have lC := heap_lt HRC.out
    have l10 := heap_lt r10
    have l11 := heap_lt r11
    have lp := heap_lt HM3.out.hs
    have lw := heap_lt HM3.out.hw
    have la := heap_lt HM3.out.ha
    have hc := HHC.out
    have h8 := HB8.out
    have hb35 : Below w3.heap.size w3 Y := (HB4.out.trans (HB5.out.mono s4)).trans (hbY.mono (Nat.le_trans s4 s5))
    have hb15 : Below w1.heap.size w1 Y := (HB2.out.trans (HB3'.out.mono s2)).trans (hb35.mono (Nat.le_trans s2 s3))
    have hb45 : Below w4.heap.size w4 Y := HB5.out.trans (hbY.mono s5)
    subst hm
    refine ⟨rfl, HM3.out.below hb35, HB1.out.trans (hb15.mono s1), ?_, ⟨by show B10 ≠ B11; omega, ?_⟩, HR3.out.below hb15, HR6.out.below hb15, HR8.out.below hb45, r10, r11, HRC.out.below hbY, Nat.zero_le _, fun e => absurd e (Nat.lt_irrefl _), Nat.le_refl _⟩
    · rintro k (rfl | rfl | rfl | rfl | rfl | rfl | rfl | rfl | rfl) <;> (try dsimp only) <;> omega
    · rintro k (rfl | rfl | rfl | rfl | rfl | rfl | rfl) <;> (try dsimp only) <;> omega
  have hmm : m.b3 = B3 ∧ m.b6 = B6 ∧ m.b8 = B8 ∧ m.b10 = B10 ∧ m.b11 = B11 ∧ m.c = C := by rw [hm]; exact ⟨rfl, rfl, rfl, rfl, rfl, rfl⟩
  have HTI := Lib.hid hti
  have HMM := Lib.hid hmm
  rw [← hY, ← hB10, ← hB11]
  clear hti hmm hm hbY r10 r11 hB11 hB10 hY HR3 HR6 HR8 HRC HB2 HB3' HB4 HB5 HHC HB8 HM3 HP HB1 HBB l3
  go_wp2_with fail
  refine wp_range (a₁ := ?fr) (s0 := (W, 0)) (hg := rfl) (eg := fun args w => by kernel_rfl) (hc := runs_iter (p := p) (bw := bw) (ba := ba) (n := n) (C := C) (V := W) hmx) (hps := fun _ => rfl) (hT := fun _ _ h => KeepsOthers.of_below h)
    (hKt := fun _ _ => trivial) (hKb := fun _ _ _ _ _ _ _ => trivial) (I := fun s X => TiI w X m p bw ba n Y.heap.size W s) (Ix := fun _ _ => False) ?hIT ?hIxT ?hI ?hIx ?h0 ?hIv (hassign := ?assign) (hbody := ?body) (hdone := ?done) (hstop := ?stop)
  case assign =>
    intro l x X K hK
    simp only [Rn.enc]
    gi_wp2
    exact hK
  case hIT => exact fun s X Y h ht => h.below ht
  case hIxT => exact fun _ _ _ h _ => h
  case hI =>
    intro s X l o o' h hl ho hc
    exact h.step (mod_putObj _ _ _) fun k e => by subst e; exact hl
  case hIx => exact fun _ _ _ _ _ h _ _ _ => h
  case h0 => exact fun W1 hb => HTI.out.below hb
  case hIv =>
    intro s X h
    refine ⟨by rw [h.eq]; exact h.bm, ?_, HT.out.below h.bel⟩
    have h2 := h.hc
    rw [HMM.out.2.2.2.2.2] at h2
    exact h2
  case body =>
    rintro l ⟨Ws, pl⟩ ⟨f, cn⟩ A hti ⟨hx, hxe⟩
    obtain rfl : Ws = W := hti.eq
    simp only at hx hxe
    have hxn : pl ≤ f ∧ f < n ∧ Bm.bit Ws f = true ∧ ∀ t, pl ≤ t → t < f → Bm.bit Ws t = false := by
      rcases hx with ⟨h1, -⟩ | ⟨j, h1, h2, h3, h4, h5⟩
      · omega
      · obtain rfl : f = j := by omega
        exact ⟨h2, h3, h4, h5⟩
    obtain ⟨hr1, hr2, hr3, hr4, -⟩ := Bm.runE_is hxn.2.1 hxn.2.2.1
    rw [← hxe] at hr1 hr2 hr3 hr4
    have hg0 : Bm.cnt (Bm.bit Ws) pl (f - pl) = 0 := Bm.cnt_none _ fun t ht => hxn.2.2.2 _ (by omega) (by omega)
    have hfl : Bm.cnt (Bm.bit Ws) f cn = cn := Bm.cnt_all _ fun t ht => hr3 _ (by omega) (by omega)
    have hnb := hti.nb
    have hle := hti.le
    simp only at hnb hle
    have hc1 : ∀ X, Below A.heap.size A X → Pur Tryd.prog 39 #[.pointer (some ⟨p, 0, none⟩), .int .i64 (pl : Nat), .int .i64 ((f : Int) - (pl : Int))] X (.tuple #[.int .i64 0, .int .i64 0]) := fun X hX => by
      have h1 := countrange_calls (hti.bm.below hX) (f := pl) (c := f - pl) (by omega)
      rw [hg0, show ((f - pl : Nat) : Int) = (f : Int) - (pl : Int) by omega] at h1
      exact h1
    have hc2 : ∀ X, Below A.heap.size A X → Pur Tryd.prog 39 #[.pointer (some ⟨p, 0, none⟩), .int .i64 (f : Nat), .int .i64 (cn : Nat)] X (.tuple #[.int .i64 (cn : Nat), .int .i64 0]) := fun X hX => by
      have h1 := countrange_calls (hti.bm.below hX) (f := f) (c := cn) (by omega)
      rw [hfl] at h1
      exact h1
    obtain ⟨m3, m6, m8, m10, m11, mc⟩ := HMM.out
    have hh3 := hti.h3
    have hh8 := hti.h8
    have hh10 := hti.h10
    have hh11 := hti.h11
    rw [m3] at hh3
    rw [m8] at hh8
    rw [m10] at hh10
    rw [m11] at hh11
    have e3 := hh3.cell (i := 0) rfl
    have e8 := hh8.cell (i := 0) rfl
    have e10 := hh10.cell (i := 0) rfl
    have l3 := heap_lt hh3
    have l8 := heap_lt hh8
    have l10 := heap_lt hh10
    have hp0 : (0 : Int) ≤ (pl : Int) := Int.natCast_nonneg pl
    have hf0 : (pl : Int) ≤ (f : Int) := by omega
    have hc0 : (1 : Int) ≤ (cn : Int) := by omega
    have hfn1 : (f : Int) + (cn : Int) ≤ (n : Int) := by omega
    have hn9 : (n : Int) ≤ 65536 := by omega
    have HC1 := Lib.hid hc1
    have HC2 := Lib.hid hc2
    have HTA := Lib.hid hti
    have HNX := Lib.hid (And.intro hxn.1 (And.intro hr2 (And.intro hg0 (And.intro hfl hr4))))
    have hpl : (pl : Int) ≤ 0 ∨ (0 < (pl : Int) ∧ ((f : Int) == (pl : Int)) = false) := by
      rcases Nat.eq_zero_or_pos pl with h | h
      · exact .inl (by omega)
      · refine .inr ⟨by omega, ?_⟩
        rw [beq_eq_false_iff_ne]
        intro e
        obtain rfl : f = pl := by omega
        rw [hnb h hxn.2.1] at hxn
        exact absurd hxn.2.2.1 (by decide)
    clear hx hxe hxn hr1 hr2 hr3 hr4 hg0 hfl hnb hle hc1 hc2 hh3 hh8 hh10 hh11 hti m3 m6 m8 m10 m11 mc hfn
    have hnum := fun (X : World) (e : Int) => num_calls (w := X) e
    have HNa := Lib.hid hnum
    have HNb := Lib.hid hnum
    clear hnum
    rcases hpl with hp1 | ⟨hp1, hfp⟩
    all_goals
      gi_upto_region 18 with (first
        | (refine ⟨trivial, rfl, ?_⟩
           gi_at_call 39
           refine callIn_of_call (HC1.out A (Below.refl _ _)).out ?_
           clear HC1
           rintro e A4 ⟨rfl, hb4⟩
           have q8 := ((bcell hb4).1 _ 0 l8).trans e8
           have HB4 := Lib.hid hb4
           clear hb4)
        | fail)
      clear e3 e8 e10
      gi_upto_region 19 with (first
        | (refine ⟨trivial, rfl, ?_⟩
           gi_at_call 39
           refine callIn_of_call (HC2.out A4 HB4.out).out ?_
           clear HC2
           rintro e A5 ⟨rfl, hb5⟩
           have HB5 := Lib.hid hb5
           clear hb5)
        | fail)
      clear q8
      gi_upto_region 21 with (first
        | (refine ⟨trivial, rfl, ?_⟩
           gi_at_call 33
           refine callIn_of_call (HNa.out A5 _).out ?_
           clear HNa
           rintro e A6 ⟨rfl, hb6⟩
           have HB6 := Lib.hid hb6
           clear hb6)
        | (refine ⟨trivial, rfl, ?_⟩
           gi_at_call 33
           refine callIn_of_call (HNb.out A6 _).out ?_
           clear HNb
           rintro e A7 ⟨rfl, hb7⟩
           have HB7 := Lib.hid hb7
           clear hb7)
        | fail)
      have hb4 := HB4.out
      have hb5 := hb4.trans (HB5.out.mono hb4.size)
      have hb6 := hb5.trans (HB6.out.mono hb5.size)
      have hb7 := hb6.trans (HB7.out.mono hb6.size)
      have ht7 := HTA.out.below hb7
      have hh10 := ht7.h10
      have hh11 := ht7.h11
      rw [HMM.out.2.2.2.1] at hh10
      rw [HMM.out.2.2.2.2.1] at hh11
      have g11 := hh11.cell (i := 0) rfl
      have k11 := hh11.frozen 0
      have l7 := heap_lt hh10
      have hne : B10 ≠ B11 := by rw [← HMM.out.2.2.2.1, ← HMM.out.2.2.2.2.1]; exact ht7.ne.1
      have hne2 := Ne.symm hne
      have h10a := (hh10.mod (F := fun k => k = B11) (Mod.setCell A7 B11 0 (.int .i64 ((Bm.cnt (Bm.bit Ws) 0 pl : Nat) + (cn : Nat) : Int)) rfl) hne)
      have g10 := h10a.cell (i := 0) rfl
      have k10 := h10a.frozen 0
      have hcl : ((Bm.cnt (Bm.bit Ws) 0 pl : Nat) : Int) ≤ (pl : Int) := by have := Bm.cnt_le (Bm.bit Ws) 0 pl; omega
      have hcl0 : (0 : Int) ≤ ((Bm.cnt (Bm.bit Ws) 0 pl : Nat) : Int) := Int.natCast_nonneg _
      have HT7 := Lib.hid ht7
      have HB7' := Lib.hid hb7
      simp only at g11
      clear hb4 hb5 hb6 hb7 ht7 hh10 hh11 h10a HB4 HB5 HB6 HB7
      gi_wp2_with fail
      obtain ⟨x1, x2, x3, x4, x5⟩ := HNX.out
      have hnx := HT7.out.next (f := f) (c := cn) x1 x2 x3 x4 x5
      rw [HMM.out.2.2.2.1, HMM.out.2.2.2.2.1] at hnx
      exact ⟨(KeepsOthers.of_below HB7'.out).trans ((KeepsOthers.setCell _ _ _).trans (KeepsOthers.setCell _ _ _)), trivial, (Ws, f + cn), rfl, hnx⟩
  case done =>
    rintro D ⟨Ws, pl⟩ A hD hti hfin hdef
    obtain rfl : Ws = W := hti.eq
    have hf := hfin
    unfold Al.Fin at hf
    simp only at hf
    have hno : ∀ t, pl ≤ t → t < n → Bm.bit Ws t = false := by
      rcases hf with ⟨-, h2⟩ | ⟨j, h1, -⟩
      · exact h2
      · omega
    have hle := hti.le
    simp only at hle
    have hg0 : Bm.cnt (Bm.bit Ws) pl (n - pl) = 0 := Bm.cnt_none _ fun t ht => hno _ (by omega) (by omega)
    have hcc : Bm.ones' Ws = Bm.cnt (Bm.bit Ws) 0 pl := by
      have h1 := Bm.cnt_add (Bm.bit Ws) 0 pl (n - pl)
      rw [Nat.zero_add, show pl + (n - pl) = n by omega, hg0] at h1
      rw [Bm.ones_ok hti.bm.ok, h1]; rfl
    have hc1 : ∀ X, Below A.heap.size A X → Pur Tryd.prog 39 #[.pointer (some ⟨p, 0, none⟩), .int .i64 (pl : Nat), .int .i64 ((n : Int) - (pl : Int))] X (.tuple #[.int .i64 0, .int .i64 0]) := fun X hX => by
      have h1 := countrange_calls (hti.bm.below hX) (f := pl) (c := n - pl) (by omega)
      rw [hg0, show ((n - pl : Nat) : Int) = (n : Int) - (pl : Int) by omega] at h1
      exact h1
    have hc2 : ∀ X, Below A.heap.size A X → Pur Tryd.prog 40 #[.pointer (some ⟨p, 0, none⟩)] X (.int .i64 (Bm.cnt (Bm.bit Ws) 0 pl : Nat)) := fun X hX => by
      have h1 := count_calls (hti.bm.below hX)
      rw [hcc] at h1
      exact h1
    obtain ⟨m3, m6, m8, m10, m11, mc⟩ := HMM.out
    have hh3 := hti.h3
    have hh8 := hti.h8
    have hh10 := hti.h10
    rw [m3] at hh3
    rw [m8] at hh8
    rw [m10] at hh10
    have e3 := hh3.cell (i := 0) rfl
    have e8 := hh8.cell (i := 0) rfl
    have e10 := hh10.cell (i := 0) rfl
    have hp0 : (0 : Int) ≤ (pl : Int) := Int.natCast_nonneg pl
    have hpn : (pl : Int) ≤ (n : Int) := by omega
    have hn9 : (n : Int) ≤ 65536 := by omega
    have HC1 := Lib.hid hc1
    have HC2 := Lib.hid hc2
    have HTA := Lib.hid hti
    have HDF := Lib.hid hdef
    have HDL := Lib.hid hD
    clear hf hno hle hg0 hcc hc1 hc2 hh3 hh8 hh10 hti m3 m6 m8 m10 m11 mc hfin hdef hD hfn
    go_upto_region 24 with (first
      | (go_at_call 39
         refine (HC1.out A (Below.refl _ _)).out.mono ?_
         clear HC1
         rintro e A4 ⟨rfl, hb4⟩
         have HB4 := Lib.hid hb4
         clear hb4)
      | fail)
    clear e3 e8 e10
    have ht4 := HTA.out.below HB4.out
    have hh6 := ht4.h6
    have hh8 := ht4.h8
    have hh11 := ht4.h11
    rw [HMM.out.2.1] at hh6
    rw [HMM.out.2.2.1] at hh8
    rw [HMM.out.2.2.2.2.1] at hh11
    have q8 := hh8.cell (i := 0) rfl
    have q11 := hh11.cell (i := 0) rfl
    have l6 := heap_lt hh6
    have l8 := heap_lt hh8
    have l11 := heap_lt hh11
    simp only at q11
    have HT4 := Lib.hid ht4
    have HH6 := Lib.hid hh6
    clear ht4 hh6 hh8 hh11
    generalize Bm.cnt (Bm.bit Ws) 0 pl = tot at *
    refine wp_region_R_tail (Below A4.heap.size A4) 13 (by kernel_rfl) (by kernel_rfl) (by first | exact Below.refl _ _ | exact below_alloc1 _ _ | exact below_alloc2 _ _ _ | exact below_alloc3 _ _ _ _ | (repeat' (first | assumption | exact Below.refl _ _ | exact below_alloc1 _ _ | exact below_alloc2 _ _ _ | exact below_alloc3 _ _ _ _ | (refine Below.drew ?_) | (refine below_wb ?_ ?_) | (refine Below.alloc ?_ ?_ _) | omega | (simp; done) | (simp; omega)))) ?_
    (repeat (first | (apply wpR_pass rfl; (try simp only [Act.put, List.setIfInBounds_toArray, List.set_cons_succ, List.set_cons_zero])) | (apply wpR_val rfl; (focus (intro w1 hR; obtain ⟨hc, hf⟩ := bcellB hR; (try go_simp); (try exact Eq.refl _); done)); (try simp only [Act.put, List.setIfInBounds_toArray, List.set_cons_succ, List.set_cons_zero])) | (apply wpR_call rfl; (focus (intro w1 hR; obtain ⟨hc, hf⟩ := bcellB hR; (try go_simp); (try exact And.intro rfl rfl); done)); (focus (intro w1 hR; first | exact (num_calls (w := w1) _).at_ (by first | omega | (simp; done) | (simp; omega)) hR | exact (HC2.out w1 (HB4.out.trans (Below.mono hR HB4.out.size))).at_ (by first | omega | (simp; done) | (simp; omega)) hR)); (try simp only [Act.put, List.setIfInBounds_toArray, List.set_cons_succ, List.set_cons_zero])) | (apply wpR_val_want rfl; (focus (intro w1 hR; obtain ⟨hc, hf⟩ := bcellB hR; (try go_simp); (try exact Eq.refl _); done)); (try simp only [Act.put, List.setIfInBounds_toArray, List.set_cons_succ, List.set_cons_zero])) | (apply wpR_call_want rfl; (focus (intro w1 hR; obtain ⟨hc, hf⟩ := bcellB hR; (try go_simp); (try exact And.intro rfl rfl); done)); (focus (intro w1 hR; first | exact (num_calls (w := w1) _).at_ (by first | omega | (simp; done) | (simp; omega)) hR | exact (HC2.out w1 (HB4.out.trans (Below.mono hR HB4.out.size))).at_ (by first | omega | (simp; done) | (simp; omega)) hR)); (try simp only [Act.put, List.setIfInBounds_toArray, List.set_cons_succ, List.set_cons_zero]))))
    refine wpR_nil (fun A5 hb5 => ?_)
    have hh6 := HH6.out.below hb5
    have q6 := hh6.cell (i := 0) rfl
    have f6 := hh6.frozen 0
    have HT5 := Lib.hid (HT4.out.below hb5)
    have HH5 := Lib.hid hh6
    have HB5 := Lib.hid hb5
    clear hh6 hb5 q8 q11
    go_wp2_with fail
    have hm6 : Mod (fun k => k = B6) A5 (A5.setCell ⟨B6, 0, none⟩ (.bool true)) := Mod.setCell _ _ _ _ rfl
    have hr6 := HH5.out.set 0 (.bool true)
    have hdl := heap_lt HDF.out
    have hDB : D ≠ B6 := by
      have h1 := (HT5.out.hlt m.b6 (by simp)).2
      rw [HMM.out.2.1] at h1
      have := HDL.out; omega
    have hB6 : w.heap.size ≤ B6 := by
      have h1 := (HT5.out.hlt m.b6 (by simp)).1
      rwa [HMM.out.2.1] at h1
    have hbel := HT5.out.bel.trans (hm6.below HT5.out.bel.size fun k e => by rw [e]; exact hB6)
    generalize A5.setCell ⟨B6, 0, none⟩ (.bool true) = A6 at *
    have hd6 : A6.heap[D]? = some (.deferred (some [])) := (hm6.block D (by have := HB4.out.size; have := HB5.out.size; omega) hDB).trans ((HB5.out.block D (Nat.lt_of_lt_of_le hdl HB4.out.size)).trans ((HB4.out.block D hdl).trans HDF.out))
    refine ⟨by simp, .inl ⟨_, _, rfl, run_takeDeferred hd6, ?_⟩⟩
    have hm7 := mod_putObj A6 D (.deferred none)
    exact ⟨_, results_cellb rfl rfl ((hr6.mod hm7 (fun e => hDB e.symm)).cell (i := 0) rfl), rfl, hbel.trans (hm7.below hbel.size fun k e => by
      have h1 := (HT5.out.hlt m.b6 (by simp)); have := HDL.out; omega)⟩
  case stop => exact fun _ _ _ _ h _ => h.elim
set_option maxHeartbeats 8000000 in
theorem tile_calls {w : World} {n : Int} {v sv : Value} {V : List UInt64} {ops : List OpV} (hn : (Lit.int .i64 n).wf = true) (hv : RU w v V) (hs : SlOp w sv ops) (hT : Tz w) :
    Pur Tryd.prog 9 #[.int .i64 n, v, sv] w (.bool true) := by
  by_cases hl : Bm.listedB n V = true
  · have hl2 := hl
    unfold Bm.listedB at hl2
    simp only [Bool.and_eq_true, decide_eq_true_eq, beq_iff_eq] at hl2
    obtain ⟨m, rfl⟩ : ∃ m : Nat, n = m := ⟨n.toNat, by omega⟩
    rw [Int.toNat_natCast] at hl2
    exact tile_main (Bm.ok_of_valid (by omega) (by omega) hl2.2) hv hs hT
  · have hl' : Bm.listedB n V = false := by simpa using hl
    unfold Pur
    obtain ⟨w1, hw1⟩ : ∃ w1, w1 = (w.alloc (.cells #[.int .i64 n] 3)).alloc (.cells #[.bool false] 4) := ⟨_, rfl⟩
    have r3 : Rw w1 w.heap.size 3 [.int .i64 n] := by rw [hw1]; exact (heap_old _ _ _ (by simp)).trans (heap_new _ _ _ rfl)
    have r6 : Rw w1 (w.heap.size + 1) 4 [.bool false] := by rw [hw1]; exact heap_new _ _ _ (by simp)
    have hb1 : Below w.heap.size w w1 := by rw [hw1]; exact (below_alloc1 _ _).alloc (by simp) _
    obtain ⟨B3, hB3⟩ : ∃ B, B = w.heap.size := ⟨_, rfl⟩
    obtain ⟨B6, hB6⟩ : ∃ B, B = B3 + 1 := ⟨_, rfl⟩
    rw [← hB3] at r3 r6
    rw [← hB6] at r6
    have hli := lawlisted_calls (hv.below hb1) hn
    rw [hl'] at hli
    have HLI := Lib.hid hli
    have HB1 := Lib.hid hb1
    have HR6 := Lib.hid r6
    have HBB := Lib.hid (And.intro hB3 hB6)
    have c3 := r3.cell (i := 0) rfl
    obtain ⟨vp, vc, hve⟩ := hv.form
    obtain ⟨sp, sc, hse, -, -⟩ := hs
    generalize V.length = VL at hve
    generalize ops.length = SL at hse
    subst hve hse
    clear hv hT hli hl hl' hn r3 r6 hb1
    (refine callsIn_wide (n := 0).1 (callsIn_of_wp_marks Tryd.func9 rfl trivial (wpIn_wide.2 ?_) rfl); simp only [Tryd.ntmps9, List.size_toArray, List.length_cons, List.length_nil, Nat.reduceAdd, Nat.reduceSub, Array.replicate_succ, Array.replicate_zero, List.push_toArray, List.append_toArray, List.nil_append, List.cons_append])
    go_upto_region 1 with fail
    rw [← hB3, ← hB6, ← hw1]
    clear hw1 hB3 hB6
    go_upto_region 3 with (first
      | (go_at_call 26; refine HLI.out.out.mono ?_; clear HLI; rintro e w2 ⟨rfl, hbw⟩
         have h6 := HR6.out.below hbw
         have c6 := h6.cell (i := 0) rfl
         have f6 := h6.frozen 0
         have HH6 := Lib.hid h6
         have HB2 := Lib.hid hbw
         clear hbw h6)
      | fail)
    clear c3
    go_wp2_with fail
    have hm6 : Mod (fun k => k = B6) w2 (w2.setCell ⟨B6, 0, none⟩ (.bool true)) := Mod.setCell _ _ _ _ rfl
    have hr6 := HH6.out.set 0 (.bool true)
    have hb2 := HB1.out.trans (HB2.out.mono HB1.out.size)
    exact ⟨_, results_cellb rfl rfl (hr6.cell (i := 0) rfl), rfl, hb2.trans (hm6.below hb2.size fun k e => by have := HBB.out; omega)⟩
end Go.Proofs.YtckbckdaffdjmaaDoor

/- Scripts that came in; the library's table, as the row lays it. -/
namespace Go.Proofs.YtckbckdaffdjmaaDoor
open Go.RowKit Go.ChangeShapes
set_option maxRecDepth 100000
set_option linter.unusedVariables false
set_option linter.unusedSimpArgs false

theorem ops_tu : Tryd.prog.underlying 49 = some (.slice 39) := by kernel_rfl
theorem acts_tu : Tryd.prog.underlying 37 = some (.slice 134) := by kernel_rfl
theorem op_c : Tryd.prog.cellsOf 39 = 8 := by kernel_rfl
theorem op_b : Tryd.prog.bytesOf 39 = 112 := by kernel_rfl
theorem op_leaves : leaves Tryd.prog 10 39 = some [.int .i64, .bool, .int .i64, .int .i64, .other 22, .other 37, .other 37, .bool] := by kernel_rfl
section
variable {H : Type} {enc : TypeId × Value → H} {W : World} {b base : Nat} {spare : Nat → Bool} {held : Bool}
theorem acts_one {fuel : Nat} {v : Value} {x : DataW H × List MemPlace} (h : DataW.trod enc Tryd.prog W base spare held fuel 37 [v] = some x) : v.oneCell' = true := by
  rcases Go.Deep.open_slice acts_tu h with ⟨hcs, hx⟩ | ⟨a, len, cap, m, k, D, Pl, hcs, _⟩
  · simp only [List.cons.injEq, and_true] at hcs
    subst hcs; rfl
  · simp only [List.cons.injEq, and_true] at hcs
    subst hcs; rfl
theorem range_of_cells {g o n sz : Nat} {spot : Option _} {cs : List Value} (hs : spot = none) (h : W.cells? base ((⟨g, o, spot⟩ : Addr).add n) sz = some cs) : W.rangeAt g (o + n) cs := by
  subst hs
  obtain ⟨_, hlen, hc⟩ := World.cells?_some h
  intro j u hu
  have hj : j < sz := by rw [← hlen]; exact (List.getElem?_eq_some_iff.1 hu).1
  have := hc j hj
  rw [add_flat, add_flat] at this
  rw [this]; exact hu
theorem weights_elem {t e : TypeId} {D : Nat → DataW H} {len : Nat} {spr : List (DataW H)} (ht : Tryd.prog.underlying t = some (.slice e)) (hw : ∀ n ∈ (DataW.slice ((List.range len).map D) spr).weights Tryd.prog t, n ≤ reachBytes) {i : Nat} (hi : i < len) : ∀ n ∈ (D i).weights Tryd.prog e, n ≤ reachBytes := by
  intro n hn
  refine hw n ?_
  simp only [DataW.weights, ht, List.mem_cons, List.mem_append]
  right; left
  exact weights_mem_all (j := i) (by rw [List.getElem?_map, List.getElem?_range hi]; rfl) n hn
theorem act_c : Tryd.prog.cellsOf 134 = 3 := by kernel_rfl
theorem act_b : Tryd.prog.bytesOf 134 = 24 := by kernel_rfl
theorem act_leaves : leaves Tryd.prog 10 134 = some [.int .i64, .int .i64, .int .i64] := by kernel_rfl
theorem act_of_leaves {cs : List Value} (hl : LeavesW enc Tryd.prog W base spare held reachBytes [.int .i64, .int .i64, .int .i64] cs) : ∃ x : AcV, cs = acL x ∧ OkAc x := by
  obtain ⟨k, _, rfl, hk, hl1⟩ := hl.int
  obtain ⟨a, _, rfl, ha, hl2⟩ := hl1.int
  obtain ⟨c, _, rfl, hc, hl3⟩ := hl2.int
  obtain rfl := hl3.unnil
  exact ⟨⟨k, a, c⟩, rfl, hk, ha, hc⟩
/-- A slice of acts that came in. -/
theorem acts_of_trod {fuel : Nat} {v : Value} {x : DataW H × List MemPlace} (h : DataW.trod enc Tryd.prog W base spare held fuel 37 [v] = some x) (hw : ∀ n ∈ x.1.weights Tryd.prog 37, n ≤ reachBytes) : ∃ l, SlAc W v l := by
  rcases Go.Deep.open_slice acts_tu h with ⟨hcs, hx⟩ | ⟨a, n, cp, m, k, D, Pl, hcs, hba, hl, hm, hmm, hx, hall⟩
  · simp only [List.cons.injEq, and_true] at hcs
    subst hcs
    exact ⟨[], none, 0, rfl, by simp, fun i p hp => by simp at hp⟩
  · simp only [List.cons.injEq, and_true] at hcs
    subst hcs
    subst hx
    have hlm : n ≤ m := by rw [hmm]; split <;> omega
    have hn : n ≤ 17592186043904 := by
      have := hw ((n + (m - n)) * Tryd.prog.bytesOf 134) (by simp [DataW.weights, acts_tu])
      rw [act_b] at this
      simp only [reachBytes] at this
      omega
    rw [act_c] at hall
    have hE : ∀ i, i < n → ∃ o : AcV, OkAc o ∧ W.cells? base (a.add (i * 3)) 3 = some (acL o) := fun i hi => by
      obtain ⟨cs, hc, ht⟩ := hall i (by omega)
      obtain ⟨o, rfl, h1⟩ := act_of_leaves (leaves_okW 10 _ _ _ _ _ act_leaves ht (weights_elem acts_tu hw hi))
      exact ⟨o, h1, hc⟩
    haveI : Inhabited AcV := ⟨⟨0, 0, 0⟩⟩
    obtain ⟨y, hy⟩ := Go.Deep.choose_lt (α := AcV) (p := fun i y => OkAc y ∧ W.cells? base (a.add (i * 3)) 3 = some (acL y)) hE
    have hll : ((List.range n).map y).length = n := by simp
    refine ⟨(List.range n).map y, some a, cp, by rw [hll], by rw [hll]; exact hn, fun i p hp => ?_⟩
    have hi : i < n := by have := (List.getElem?_eq_some_iff.1 hp).1; rwa [hll] at this
    rw [List.getElem?_map, List.getElem?_range hi] at hp
    have hp : y i = p := by simpa using hp
    subst hp
    obtain ⟨h1, h2⟩ := hy i hi
    obtain ⟨_, _, hc0⟩ := World.cells?_some (hy 0 (by omega)).2
    have h00 := hc0 0 (by decide)
    have hsp := World.cell?_spot (w := W) (a := (a.add (0 * 3)).add 0) (v := .int .i64 (y 0).kind) (by rw [h00]; rfl)
    obtain ⟨g, off, spot⟩ := a
    have hspot : spot = none := by simpa [Addr.add] using hsp
    subst hspot
    have hr := range_of_cells rfl h2
    exact ⟨g, off, rfl, cell_lt (hr 0 _ rfl), h1, hr⟩
theorem op_of_leaves {cs : List Value} (hl : LeavesW enc Tryd.prog W base spare held reachBytes [.int .i64, .bool, .int .i64, .int .i64, .other 22, .other 37, .other 37, .bool] cs) : ∃ o : OpV, cs = opL o ∧ OkOp W o := by
  obtain ⟨k, _, rfl, hk, hl1⟩ := hl.int
  obtain ⟨s, _, rfl, hl2⟩ := hl1.bool
  obtain ⟨a, _, rfl, ha, hl3⟩ := hl2.int
  obtain ⟨c, _, rfl, hc, hl4⟩ := hl3.int
  obtain ⟨wv, _, rfl, ⟨f1, x1, hx1, hw1⟩, hl5⟩ := hl4.other
  obtain ⟨bv, _, rfl, ⟨f2, x2, hx2, hw2⟩, hl6⟩ := hl5.other
  obtain ⟨av, _, rfl, ⟨f3, x3, hx3, hw3⟩, hl7⟩ := hl6.other
  obtain ⟨g, _, rfl, hl8⟩ := hl7.bool
  obtain rfl := hl8.unnil
  obtain ⟨l, hr, hlen⟩ := ru_of_trod hx1 hw1
  exact ⟨⟨k, s, a, c, l, wv, bv, av, g⟩, rfl, hk, ha, hc, hr, hlen, acts_one hx2, acts_one hx3, acts_of_trod hx2 hw2, acts_of_trod hx3 hw3⟩
/-- A script that came in. -/
theorem open_ops {v : Value} {d : DataW H} {ps : List MemPlace} (hv : Value.okWide Tryd.prog W .any b 49 v) (h : DataW.Trod enc Tryd.prog W base spare held 49 v d ps) (hw : ∀ n ∈ d.weights Tryd.prog 49, n ≤ reachBytes) :
    ∃ l : List OpV, SlOp W v l := by
  obtain ⟨pa, n, cp, rfl⟩ := Go.WideShapes.okWide_slice ops_tu hv
  obtain ⟨fuel, hf⟩ := h
  rcases Go.Deep.open_slice ops_tu hf with ⟨hcs, hx⟩ | ⟨a, len, cap, m, k, D, Pl, hcs, hba, hl, hm, hmm, hx, hall⟩
  · simp [Value.cells] at hcs
    obtain ⟨rfl, rfl, rfl⟩ := hcs
    exact ⟨[], none, 0, rfl, by simp, fun i p hp => by simp at hp⟩
  · simp [Value.cells] at hcs
    obtain ⟨rfl, rfl, rfl⟩ := hcs
    simp only [Prod.mk.injEq] at hx
    obtain ⟨rfl, _⟩ := hx
    have hlm : n ≤ m := by rw [hmm]; split <;> omega
    have hn : n ≤ 1256584717715 := by
      have := hw ((n + (m - n)) * Tryd.prog.bytesOf 39) (by simp [DataW.weights, ops_tu])
      rw [op_b] at this
      simp only [reachBytes] at this
      omega
    rw [op_c] at hall
    have hE : ∀ i, i < n → ∃ o : OpV, OkOp W o ∧ W.cells? base (a.add (i * 8)) 8 = some (opL o) := fun i hi => by
      obtain ⟨cs, hc, ht⟩ := hall i (by omega)
      obtain ⟨o, rfl, h1⟩ := op_of_leaves (leaves_okW 10 _ _ _ _ _ op_leaves ht (weights_elem ops_tu hw hi))
      exact ⟨o, h1, hc⟩
    haveI : Inhabited OpV := ⟨⟨0, false, 0, 0, [], .slice none 0 0, .slice none 0 0, .slice none 0 0, false⟩⟩
    obtain ⟨y, hy⟩ := Go.Deep.choose_lt (α := OpV) (p := fun i y => OkOp W y ∧ W.cells? base (a.add (i * 8)) 8 = some (opL y)) hE
    have hll : ((List.range n).map y).length = n := by simp
    refine ⟨(List.range n).map y, some a, cp, by rw [hll], by rw [hll]; exact hn, fun i p hp => ?_⟩
    have hi : i < n := by have := (List.getElem?_eq_some_iff.1 hp).1; rwa [hll] at this
    rw [List.getElem?_map, List.getElem?_range hi] at hp
    have hp : y i = p := by simpa using hp
    subst hp
    obtain ⟨h1, h2⟩ := hy i hi
    obtain ⟨_, _, hc0⟩ := World.cells?_some (hy 0 (by omega)).2
    have h00 := hc0 0 (by decide)
    have hsp := World.cell?_spot (w := W) (a := (a.add (0 * 8)).add 0) (v := .int .i64 (y 0).kind) (by rw [h00]; rfl)
    obtain ⟨g, off, spot⟩ := a
    have hspot : spot = none := by simpa [Addr.add] using hsp
    subst hspot
    have hr := range_of_cells rfl h2
    exact ⟨g, off, rfl, cell_lt (hr 0 _ rfl), h1, hr⟩
end
end Go.Proofs.YtckbckdaffdjmaaDoor

/- The library's table, as the row lays it. -/
namespace Go.Proofs.YtckbckdaffdjmaaDoor
open Go.RowKit
set_option maxRecDepth 100000
set_option linter.unusedVariables false
set_option linter.unusedSimpArgs false

section
variable {H : Type} {enc : TypeId × Value → H} {P : Program} {w : World} {base : Nat} {sp : Nat → Bool} {held : Bool} {fuel : Nat}
theorem lit_cell {e : TypeId} {c : Value} {x : DataW H × List MemPlace} {l : Lit} (he : (∃ k, P.underlying e = some (.int k)) ∨ P.underlying e = some .string)
    (h : DataW.trod enc P w base sp held fuel e [c] = some x) (hx : x.1 = .lit l) : c = l.value := by
  rcases he with ⟨k, he⟩ | he
  · obtain ⟨n, hc, hxx, _⟩ := DataW.trod_int he h
    simp only [List.cons.injEq, and_true] at hc
    subst hc
    rw [hxx] at hx
    cases hx
    rfl
  · obtain ⟨s, hc, hxx, _⟩ := DataW.trod_string he h
    simp only [List.cons.injEq, and_true] at hc
    subst hc
    rw [hxx] at hx
    cases hx
    rfl
theorem lits_cells {t e : TypeId} {n : Nat} {cs : List Value} {x : DataW H × List MemPlace} (hu : P.underlying t = some (.array n e)) (hc : P.cellsOf e = 1) (hct : P.cellsOf t = n)
    (he : (∃ k, P.underlying e = some (.int k)) ∨ P.underlying e = some .string) (h : DataW.trod enc P w base sp held fuel t cs = some x) (ls : List Lit) (hx : x.1 = .agg (ls.map .lit)) :
    cs = ls.map Lit.value := by
  obtain ⟨xs, m, rfl, rfl, hl, hn, hel⟩ := DataW.trod_array hu h
  have hxs : xs.map (·.1) = ls.map .lit := by simpa using hx
  have hlen : ls.length = n := by have := congrArg List.length hxs; simp at this; omega
  apply List.ext_getElem?
  intro i
  by_cases hi : i < n
  · have h1 := hel i hi
    rw [hc, Nat.mul_one] at h1
    have hci : i < cs.length := by omega
    have e1 : (cs.drop i).take 1 = [cs[i]] := by rw [List.drop_eq_getElem_cons hci]; rfl
    rw [e1, List.getElem?_eq_getElem (by omega)] at h1
    have h2 : xs[i].1 = .lit ls[i] := by
      have := congrArg (fun l => l[i]?) hxs
      simpa [List.getElem?_map, List.getElem?_eq_getElem (show i < xs.length by omega), List.getElem?_eq_getElem (show i < ls.length by omega)] using this
    rw [List.getElem?_eq_getElem hci, List.getElem?_map, List.getElem?_eq_getElem (show i < ls.length by omega), lit_cell he h1 h2]
    rfl
  · rw [List.getElem?_eq_none (by omega), List.getElem?_eq_none (by simp; omega)]
/-- A laid variable's cells. -/
theorem laid_var {n : String} {d : DataW Unit} {r : List (String × DataW Unit)} {ps : List MemPlace} (h : DataW.LaidVars P w ((n, d) :: r) ps) {g : Nat} {t e : TypeId} {m : Nat} (ls : List Lit) (hg : P.globalNamed n = some g)
    (ht : (P.globals[g]?).map (·.type) = some t) (hu : P.underlying t = some (.array m e)) (hc : P.cellsOf e = 1) (hct : P.cellsOf t = m) (he : (∃ k, P.underlying e = some (.int k)) ∨ P.underlying e = some .string) (hd : d = .agg (ls.map .lit)) :
    (∀ i l, ls[i]? = some l → w.cell? ⟨g, i, none⟩ = some l.value) ∧ ∃ ps', DataW.LaidVars P w r ps' := by
  obtain ⟨g', t', cs, fuel, p, q, hg', ht', hv, htr, hr, _⟩ := h
  obtain rfl : g = g' := Option.some.inj (hg.symm.trans hg')
  obtain rfl : t = t' := Option.some.inj (ht.symm.trans ht')
  have hcs := lits_cells hu hc hct he htr ls hd
  refine ⟨fun i l hl => ?_, _, hr⟩
  rw [World.var?_cell hg hv i, ← Array.getElem?_toList, hcs, List.getElem?_map, hl]
  rfl
theorem laid_of {laid : List (String × DataW Unit)} (hp : (laid.all fun x => x.2.handleName?.isNone) = true) (h : laidMetH P laid w) : ∃ ps, DataW.LaidVars P w laid ps := by
  rw [MakeChecks.laidMetH_plain _ _ _ hp] at h
  obtain ⟨ps, h, _⟩ := h
  exact ⟨ps, h⟩
end
theorem tz_of {W : World} (h : laidMetH Tryd.prog [("math/bits.deBruijn64tab", Rows.laid_math_bits_deBruijn64tab)] W) : Tz W := by
  obtain ⟨ps, h⟩ := laid_of (by kernel_rfl) h
  obtain ⟨h1, -⟩ := laid_var h (g := 0) (Lib.deBruijn64tab.map fun c : Nat => Lit.int .u8 (c : Int)) (by kernel_rfl) (t := 130) (by kernel_rfl) (e := 5) (m := 64) (by kernel_rfl) (by kernel_rfl) (by kernel_rfl) (.inl ⟨.u8, by kernel_rfl⟩) rfl
  intro j hj
  refine (h1 j (.int .u8 ((Lib.deBruijn64tab.getD j 0 : Nat) : Int)) ?_).trans rfl
  rw [List.getElem?_map, List.getElem?_eq_getElem hj, List.getD_eq_getElem?_getD, List.getElem?_eq_getElem hj]; rfl
section
open Go.ChangeShapes
variable {H : Type} {enc : TypeId × Value → H} {P : Program} {W : World} {base : Nat} {spare : Nat → Bool} {held : Bool}
theorem trodAll_fiveU {t0 t1 t2 t3 t4 : TypeId} {args : Array Value} {ds : List (DataW H)} {ps : List MemPlace} (h : DataW.TrodAll enc P W base spare held [t0, t1, t2, t3, t4] args.toList ds ps) :
    ∃ v0 v1 v2 v3 v4 d0 d1 d2 d3 d4 p0 p1 p2 p3 p4, args = #[v0, v1, v2, v3, v4] ∧ ds = [d0, d1, d2, d3, d4] ∧ DataW.Trod enc P W base spare held t0 v0 d0 p0 ∧ DataW.Trod enc P W base spare held t1 v1 d1 p1 ∧ DataW.Trod enc P W base spare held t2 v2 d2 p2 ∧ DataW.Trod enc P W base spare held t3 v3 d3 p3 ∧ DataW.Trod enc P W base spare held t4 v4 d4 p4 := by
  obtain ⟨v0, x0, d0, y0, p0, q0, hargs, rfl, rfl, h0, r0⟩ := trodAll_cons h
  obtain ⟨v1, x1, d1, y1, p1, q1, rfl, rfl, rfl, h1, r1⟩ := trodAll_cons r0
  obtain ⟨v2, x2, d2, y2, p2, q2, rfl, rfl, rfl, h2, r2⟩ := trodAll_cons r1
  obtain ⟨v3, x3, d3, y3, p3, q3, rfl, rfl, rfl, h3, r3⟩ := trodAll_cons r2
  obtain ⟨v4, x4, d4, y4, p4, q4, rfl, rfl, rfl, h4, r4⟩ := trodAll_cons r3
  obtain ⟨rfl, rfl, rfl⟩ := trodAll_nil r4
  exact ⟨v0, v1, v2, v3, v4, d0, d1, d2, d3, d4, p0, p1, p2, p3, p4, by cases args; simp_all, rfl, h0, h1, h2, h3, h4⟩
end
end Go.Proofs.YtckbckdaffdjmaaDoor
