/- Walks and plain laws of the packets and frames, joined from: AlU, WkU, ItRn, RuU, RnU, RnM, TlM, TlN, TiU. -/
import Derived.Test.YtckbckdaffdjmaaDoorRk7
import Derived.Sort.CutIn
import Derived.Sort.AtCall
/- A range over All, its body changing what it ranges over: all. -/
namespace Go.Proofs.YtckbckdaffdjmaaDoor
open Go.RowKit
attribute [local go_sem] Oper.semAt_some
set_option maxRecDepth 100000
set_option linter.unusedVariables false
set_option linter.unusedSimpArgs false

set_option maxHeartbeats 32000000 in
theorem lawall_calls {w : World} {P p bw ba r bb b n N : Nat} {own : Nat → Prop} {late : Bool} {o : OpV} {W : List UInt64} (h : PrB w P p bw ba r bb b n W own late N) (ho : OkOp w o) {lb la : List AcV} (hB : ∀ X, Mod (Pr.At P p bw ba r bb) w X → SlAc X o.bv lb ∧ SlAc X o.av la ∧ Tz X ∧ OkOp X o) :
    Calls Tryd.prog 41 #[.pointer (some ⟨P, 0, none⟩), .agg (opL o).toArray] w (ChgQ w P p bw ba r bb b n N own late) := by
  obtain ⟨w0, hw0⟩ : ∃ w0, w0 = ((w.alloc (.cells #[.pointer (some ⟨P, 0, none⟩)] 25)).alloc (.cells (opL o).toArray 39)).alloc (.cells #[.bool false] 4) := ⟨_, rfl⟩
  have r1 : Rw w0 w.heap.size 25 [.pointer (some ⟨P, 0, none⟩)] := by rw [hw0]; exact (heap_old _ _ _ (by simp; omega)).trans ((heap_old _ _ _ (by simp)).trans (heap_new _ _ _ rfl))
  have rd : Rw w0 (w.heap.size + 1) 39 (opL o) := by rw [hw0]; exact (heap_old _ _ _ (by simp)).trans (heap_new _ _ _ (by simp))
  have r2 : Rw w0 (w.heap.size + 2) 4 [.bool false] := by rw [hw0]; exact heap_new _ _ _ (by simp)
  have hb0 : Below w.heap.size w w0 := by rw [hw0]; exact ((below_alloc1 _ _).alloc (by simp) _).alloc (by simp; omega) _
  obtain ⟨E1, hE1⟩ : ∃ B, B = w.heap.size := ⟨_, rfl⟩
  obtain ⟨D, hD⟩ : ∃ B, B = E1 + 1 := ⟨_, rfl⟩
  obtain ⟨E2, hE2⟩ : ∃ B, B = E1 + 2 := ⟨_, rfl⟩
  rw [← hE1] at r1 rd r2
  rw [← hD] at rd
  rw [← hE2] at r2
  have HK : Hid (∀ k, Pr.At P p bw ba r bb k ∨ own k → k < w.heap.size) := Lib.hid fun k e => e.elim (h.pr.lt k) (h.bk.lt k)
  have h0 := h.below hb0
  have c1 := r1.cell (i := 0) rfl
  have cp := h0.pr.hP.cell (i := 0) rfl
  have lE1 := heap_lt r1
  have lD := heap_lt rd
  have hmx := h.pr.hm.ok.max
  obtain ⟨qa, caa, hava, -, -⟩ := (hB w (Mod.refl _ _)).2.1
  generalize la.length = LA at hava
  have HAVF := Lib.hid hava
  clear hava
  have HO := Lib.hid ho
  have HB := Lib.hid hB
  have H0 := Lib.hid h0
  have HB0 := Lib.hid hb0
  have HR1 := Lib.hid r1
  have HRD := Lib.hid rd
  have HR2 := Lib.hid r2
  have HEE := Lib.hid (And.intro hE1 (And.intro hD hE2))
  rw [show (opL o).toArray = #[.int .i64 o.kind, .bool o.second, .int .i64 o.a, .int .i64 o.b, o.wv, o.bv, o.av, .bool o.again] from rfl] at hw0 ⊢
  clear h ho hB h0 hb0 r1 rd r2
  (refine callsIn_wide (n := 0).1 (callsIn_of_wp_marks Tryd.func41 rfl trivial (wpIn_wide.2 ?_) rfl); simp only [Tryd.ntmps41, List.size_toArray, List.length_cons, List.length_nil, Nat.reduceAdd, Nat.reduceSub, Array.replicate_succ, Array.replicate_zero, List.push_toArray, List.append_toArray, List.nil_append, List.cons_append])
  go_upto_region 1 with fail
  rw [← hw0, ← hE1, ← hE2, ← hD]
  clear hw0 hE1 hE2 hD
  go_upto_region 2 with (first
    | (go_at_call 77; refine all_calls.mono ?_; rintro e w1 ⟨C, rfl, hC, hrc, hb1⟩
       have HRC := Lib.hid hrc
       have HB1 := Lib.hid hb1
       have HHC := Lib.hid hC
       clear hrc hb1 hC)
    | fail)
  clear c1 cp
  have hb01 := HB0.out.trans (HB1.out.mono HB0.out.size)
  have hrd := HRD.out.below HB1.out
  have c1 := (HR1.out.below HB1.out).cell (i := 0) rfl
  have ck := hrd.cell (i := 0) (v := .int .i64 o.kind) rfl
  have cs := hrd.cell (i := 1) (v := .bool o.second) rfl
  have ca := hrd.cell (i := 2) (v := .int .i64 o.a) rfl
  have cb := hrd.cell (i := 3) (v := .int .i64 o.b) rfl
  have cv := hrd.cell (i := 4) (v := o.wv) rfl
  have cbv := hrd.cell (i := 5) (v := o.bv) rfl
  have cav := hrd.cell (i := 6) (v := o.av) rfl
  have cag := hrd.cell (i := 7) (v := .bool o.again) rfl
  have hbf := before_calls (H0.out.below HB1.out) (HO.out.below hb01) (l := lb) (fun X hX => by have h1 := HB.out X ((Mod.of_below hb01).trans hX); exact ⟨h1.1, h1.2.2.1⟩)
  rw [show (opL o).toArray = #[.int .i64 o.kind, .bool o.second, .int .i64 o.a, .int .i64 o.b, o.wv, o.bv, o.av, .bool o.again] from rfl] at hbf
  have HBF := Lib.hid hbf
  clear hb01 hrd hbf
  go_upto_region 3 with (first
    | (go_at_call 78
       refine HBF.out.mono ?_
       clear HBF
       rintro e w2 ⟨he, W2, hp2, hm2⟩
       subst he
       have HP2 := Lib.hid hp2
       have HM2 := Lib.hid hm2
       clear hp2 hm2)
    | fail)
  clear c1 ck cs ca cb cv cbv cav cag
  have hfn : ∀ X, (binOp .eql 109 (.func (.func 99) #[] #[.pointer (some ⟨C, 0, none⟩)]) .nilFunc).run Tryd.prog X = .ok (.bool false) X := fun X => by kernel_rfl
  obtain ⟨w4, hw4⟩ : ∃ w4, w4 = (w2.alloc (.cells #[.bool true] 4)).alloc (.cells #[.int .i64 0] 3) := ⟨_, rfl⟩
  obtain ⟨E6, hE6⟩ : ∃ B, B = w2.heap.size := ⟨_, rfl⟩
  obtain ⟨E7, hE7⟩ : ∃ B, B = E6 + 1 := ⟨_, rfl⟩
  have r6 : Rw w4 E6 4 [.bool true] := by rw [hw4, hE6]; exact (heap_old _ _ _ (by simp)).trans (heap_new _ _ _ rfl)
  have r7 : Rw w4 E7 3 [.int .i64 ((0 : Nat) : Int)] := by rw [hw4, hE7, hE6]; exact heap_new _ _ _ (by simp)
  have hb4 : Below w2.heap.size w2 w4 := by rw [hw4]; exact (below_alloc1 _ _).alloc (by simp) _
  obtain ⟨m0, hm0⟩ : ∃ m0 : AlN, m0 = ⟨E1, D, E2, C, E6, E7, 0, 0, 0⟩ := ⟨_, rfl⟩
  have hou : OuV w P p bw ba r bb b n N own late o [] m0 w4 W2 0 := by
    obtain ⟨q1, q2, q3⟩ := HEE.out
    have l1 := heap_lt HR1.out
    have ld := heap_lt HRD.out
    have l2 := heap_lt HR2.out
    have lc := heap_lt HRC.out
    have hs1 := HB1.out.size
    have hs2 := HM2.out.size
    have hcg := HHC.out
    have hn : ∀ k, w.heap.size ≤ k → ¬ Pr.At P p bw ba r bb k := fun k hk a => by have := HK.out k (.inl a); omega
    have hm : Mod (Pr.At P p bw ba r bb) w1 w4 := HM2.out.onB hb4
    subst hm0
    exact ⟨HP2.out.below hb4, (((Mod.of_below HB0.out).onB HB1.out).trans HM2.out).onB hb4, HK.out, ⟨by show w.heap.size ≤ E1; omega, by show E1 < D; omega, by show D < E2; omega, by show E2 < C; omega, by show C < E6; omega, by show E6 < E7; omega⟩,
      (HR1.out.below HB1.out).mod hm (hn _ (by omega)), (HRD.out.below HB1.out).mod hm (hn _ (by omega)), (HR2.out.below HB1.out).mod hm (hn _ (by omega)), HRC.out.mod hm (hn _ (by omega)), r6, r7, fun D hD => (by cases hD)⟩
  have HOU := Lib.hid hou
  have HW4 := Lib.hid hw4
  have HE67 := Lib.hid (And.intro hE6 hE7)
  have HM0 := Lib.hid hm0
  clear hou r6 r7 hb4 hw4 hE6 hE7 hm0 HR1 HRD HR2 HRC HB1 HHC HP2 HM2 lE1 lD
  go_wp2_with fail
  rw [← HW4.out, ← HE67.out.1, ← HE67.out.2]
  obtain ⟨np, hnp⟩ : ∃ np : Nat, np = (if o.again = true then 2 else 1) := ⟨_, rfl⟩
  have hnp2 : np ≤ 2 := by rw [hnp]; split <;> omega
  have hps : ∀ X : World, Pur Tryd.prog 79 #[.agg #[.int .i64 o.kind, .bool o.second, .int .i64 o.a, .int .i64 o.b, o.wv, o.bv, o.av, .bool o.again]] X (.int .i64 (np : Int)) := fun X => by
    have h1 := passes_calls (w := X) o
    rw [show (if o.again = true then (2 : Int) else 1) = (np : Int) by rw [hnp]; cases o.again <;> rfl] at h1
    exact h1
  have HPS := Lib.hid hps
  have HOU2 : Hid (m0.e1 = E1 ∧ m0.d = D ∧ m0.e2 = E2 ∧ m0.c = C ∧ m0.e6 = E6 ∧ m0.e7 = E7) := Lib.hid (by rw [HM0.out]; exact ⟨rfl, rfl, rfl, rfl, rfl, rfl⟩)
  clear hnp hps HM0
  refine wp_loop_count (fun i a X => ∃ ds : List Nat, Is (fun U => ⟨#[U 0, U 1, .pointer (some ⟨E1, 0, none⟩), .pointer (some ⟨D, 0, none⟩), .pointer (some ⟨E2, 0, none⟩), .func (.func 99) #[] #[.pointer (some ⟨C, 0, none⟩)], .pointer (some ⟨E6, 0, none⟩), .pointer (some ⟨E7, 0, none⟩), .int .i64 i, U 9, U 10, U 11, U 12, U 13, U 14, U 15, U 16, U 17, U 18, U 19, U 20, U 21, U 22, U 23, U 24, U 25, U 26, U 27, U 28, U 29, U 30, U 31, U 32, U 33, U 34, U 35, U 36, U 37, U 38, U 39, U 40, U 41, U 42, U 43, U 44, U 45, U 46, U 47, U 48, U 49, U 50, U 51, U 52, U 53, U 54, U 55, U 56, U 57, U 58, U 59, U 60, U 61, U 62, U 63, U 64, U 65, U 66, U 67, U 68, U 69, U 70], ds.map mark⟩) a ∧ ds.Nodup ∧ (∀ D ∈ ds, w.heap.size ≤ D) ∧ ∃ W' v7, OuV w P p bw ba r bb b n N own late o ds m0 X W' v7 ∧ v7 ≤ 65536 * i) np ⟨[], isUd (fun U => ⟨#[U 0, U 1, .pointer (some ⟨E1, 0, none⟩), .pointer (some ⟨D, 0, none⟩), .pointer (some ⟨E2, 0, none⟩), .func (.func 99) #[] #[.pointer (some ⟨C, 0, none⟩)], .pointer (some ⟨E6, 0, none⟩), .pointer (some ⟨E7, 0, none⟩), .int .i64 0, U 9, U 10, U 11, U 12, U 13, U 14, U 15, U 16, U 17, U 18, U 19, U 20, U 21, U 22, U 23, U 24, U 25, U 26, U 27, U 28, U 29, U 30, U 31, U 32, U 33, U 34, U 35, U 36, U 37, U 38, U 39, U 40, U 41, U 42, U 43, U 44, U 45, U 46, U 47, U 48, U 49, U 50, U 51, U 52, U 53, U 54, U 55, U 56, U 57, U 58, U 59, U 60, U 61, U 62, U 63, U 64, U 65, U 66, U 67, U 68, U 69, U 70], ([] : List Nat).map mark⟩) rfl, List.nodup_nil, fun D hD => (by cases hD), W2, 0, HOU.out, Nat.zero_le _⟩ ?_ ?_
  · clear HOU HW4 HE67 H0 HB0 HEE
    rintro i a X hi ⟨ds, hU, hnd, hds, W', v7, hou, hv7⟩
    obtain ⟨U, rfl⟩ := hU.out
    obtain ⟨q1, q2, q3, q4, q5, q6⟩ := HOU2.out
    have hrd := hou.hd
    rw [q2] at hrd
    have lD := heap_lt hrd
    have ck := hrd.cell (i := 0) (v := .int .i64 o.kind) rfl
    have cs := hrd.cell (i := 1) (v := .bool o.second) rfl
    have ca := hrd.cell (i := 2) (v := .int .i64 o.a) rfl
    have cb := hrd.cell (i := 3) (v := .int .i64 o.b) rfl
    have cv := hrd.cell (i := 4) (v := o.wv) rfl
    have cbv := hrd.cell (i := 5) (v := o.bv) rfl
    have cav := hrd.cell (i := 6) (v := o.av) rfl
    have cag := hrd.cell (i := 7) (v := .bool o.again) rfl
    have hi' : (i : Int) < (np : Int) := by exact_mod_cast hi
    have hi0 : (0 : Int) ≤ (i : Int) := Int.natCast_nonneg i
    have hi2 : i < 2 := by omega
    have HOI := Lib.hid hou
    have HV7 := Lib.hid hv7
    have HND := Lib.hid hnd
    have HDS := Lib.hid hds
    clear hU hou hv7 hnd hds hrd q1 q2 q3 q4 q5 q6
    go_upto_region 12 with (first
      | (go_at_call 79
         refine (HPS.out X).out.mono ?_
         rintro e X1 ⟨rfl, hbx⟩
         have HBX := Lib.hid hbx
         clear hbx)
      | fail)
    clear ck cs ca cb cv cbv cav cag
    have hou1 := HOI.out.below HBX.out
    obtain ⟨Y, hY⟩ : ∃ Y, Y = ((X1.alloc (.cells #[.int .i64 0] 3)).alloc (.cells #[.int .i64 0] 3)).alloc (.cells #[.bool false] 4) := ⟨_, rfl⟩
    obtain ⟨E9, hE9⟩ : ∃ B, B = X1.heap.size := ⟨_, rfl⟩
    obtain ⟨E10, hE10⟩ : ∃ B, B = E9 + 1 := ⟨_, rfl⟩
    obtain ⟨E11, hE11⟩ : ∃ B, B = E10 + 1 := ⟨_, rfl⟩
    have r9 : Rw Y E9 3 [.int .i64 ((0 : Nat) : Int)] := by rw [hY, hE9]; exact (heap_old _ _ _ (by simp; omega)).trans ((heap_old _ _ _ (by simp)).trans (heap_new _ _ _ rfl))
    have r10 : Rw Y E10 3 [.int .i64 ((0 : Nat) : Int)] := by rw [hY, hE10, hE9]; exact (heap_old _ _ _ (by simp)).trans (heap_new _ _ _ (by simp))
    have r11 : Rw Y E11 4 [.bool false] := by rw [hY, hE11, hE10, hE9]; exact heap_new _ _ _ (by simp)
    have hbY : Below X1.heap.size X1 Y := by rw [hY]; exact ((below_alloc1 _ _).alloc (by simp) _).alloc (by simp; omega) _
    obtain ⟨m, hm⟩ : ∃ m : AlN, m = { m0 with e9 := E9, e10 := E10, e11 := E11 } := ⟨_, rfl⟩
    have hav : AlV w P p bw ba r bb b n N own late o ds m Y.heap.size Y W' v7 0 0 false := by
      have l7 := heap_lt hou1.h7
      have l11 := heap_lt r11
      subst hm
      exact ⟨(hou1.below hbY).re E9 E10 E11, ⟨by show m0.e7 < E9; omega, by show E9 < E10; omega, by show E10 < E11; omega, l11⟩, r9, r10, r11, Nat.le_refl _, fun D hD => Nat.lt_of_lt_of_le (heap_lt (hou1.df D hD)) hbY.size⟩
    have hmm : m.e1 = E1 ∧ m.d = D ∧ m.e2 = E2 ∧ m.c = C ∧ m.e6 = E6 ∧ m.e7 = E7 ∧ m.e9 = E9 ∧ m.e10 = E10 ∧ m.e11 = E11 := by
      obtain ⟨q1, q2, q3, q4, q5, q6⟩ := HOU2.out
      rw [hm]; exact ⟨q1, q2, q3, q4, q5, q6, rfl, rfl, rfl⟩
    have HAV := Lib.hid hav
    have HMM := Lib.hid hmm
    have HMQ := Lib.hid hm
    rw [← hY, ← hE9, ← hE10, ← hE11]
    clear hou1 hY hE9 hE10 hE11 r9 r10 r11 hbY hm hav hmm HOI HBX
    go_wp2_with fail
    refine wp_range (a₁ := ?fr) (s0 := (W', 0)) (hg := rfl) (eg := fun args w => by kernel_rfl) (hc := all_iter (p := p) (bw := bw) (ba := ba) (n := n) (C := C) (V := W') hmx) (hps := fun _ => rfl) (hT := fun _ _ h => KeepsOthers.of_below h)
      (hKt := fun _ _ => trivial) (hKb := fun _ _ _ _ _ _ _ => trivial) (I := fun s A => ∃ a7 a10, AlV w P p bw ba r bb b n N own late o ds m Y.heap.size A s.1 a7 s.2 a10 false ∧ a10 ≤ s.2 ∧ a7 ≤ v7 + s.2 ∧ s.2 ≤ n)
      (Ix := fun c A => c = .exit 2 ∧ ∃ Wx a7 a9 a10, AlV w P p bw ba r bb b n N own late o ds m Y.heap.size A Wx a7 a9 a10 true ∧ a7 ≤ v7 + 65536) ?hIT ?hIxT ?hI ?hIx ?h0 ?hIv (hassign := ?assign) (hbody := ?body) (hdone := ?done) (hstop := ?stop)
    case assign =>
      intro l x A K hK
      simp only [Al.enc]
      gi_wp2
      exact hK
    case hIT => exact fun s A B ⟨a7, a10, h1, h2⟩ ht => ⟨a7, a10, h1.below ht, h2⟩
    case hIxT => exact fun c A B ⟨h0, Wx, a7, a9, a10, h1, h2⟩ ht => ⟨h0, Wx, a7, a9, a10, h1.below ht, h2⟩
    case hI =>
      rintro s A l x x' ⟨a7, a10, h1, h2⟩ hl ho hc
      exact ⟨a7, a10, h1.step (mod_putObj _ _ _) fun k e => by subst e; exact hl, h2⟩
    case hIx =>
      rintro c A l x x' ⟨h0, Wx, a7, a9, a10, h1, h2⟩ hl ho hc
      exact ⟨h0, Wx, a7, a9, a10, h1.step (mod_putObj _ _ _) fun k e => by subst e; exact hl, h2⟩
    case h0 => exact fun W1 hb => ⟨v7, 0, HAV.out.below hb, Nat.le_refl _, Nat.le_refl _, Nat.zero_le _⟩
    case hIv =>
      rintro s A ⟨a7, a10, h1, -⟩
      refine ⟨h1.ou.pb.pr.hm, ?_, (HB.out A h1.ou.mod).2.2.1⟩
      have h2 := h1.ou.hc
      rw [HMM.out.2.2.2.1] at h2
      exact h2
    case body =>
      rintro l ⟨Ws, pl⟩ x A ⟨a7, a10, hv, h10, h7, hsn⟩ hrd
      have hx := hrd
      unfold Al.Rd at hx
      simp only at hx hv h10 h7 hsn
      have hfe := hx.eq
      have hxn : pl ≤ x ∧ x < n := by
        rcases hx with ⟨h1, -⟩ | ⟨j, h1, h2, h3, -⟩
        · omega
        · omega
      obtain ⟨m1, m2, m3, m4, m5, m6, m7, m8, m9⟩ := HMM.out
      have hpr := hv.ou.pb.pr
      have hfd : ∀ w1, Below A.heap.size A w1 → Pur Tryd.prog 61 #[.pointer (some ⟨r, 0, none⟩), .int .i64 (pl : Nat), .bool true] w1 (.int .i64 (x : Int)) := fun w1 hb => by
        have h1 := rfind_true (hpr.hr.below hb) (f := ((pl : Nat) : Int)) (wf_nat (by omega))
        rw [Int.toNat_natCast, ← hfe] at h1
        exact h1
      have hh1 := hv.ou.h1
      have hh9 := hv.h9
      rw [m1] at hh1
      rw [m7] at hh9
      have cb1 := hh1.cell (i := 0) rfl
      have cb9 := hh9.cell (i := 0) rfl
      have cP := hpr.hP.cell (i := 1) rfl
      have lb1 := heap_lt hh1
      have lb9 := heap_lt hh9
      have lP := heap_lt hpr.hP
      have hx0 : (0 : Int) ≤ (x : Int) := Int.natCast_nonneg x
      have hx9 : (x : Int) < 65536 := by omega
      have ha0 : (0 : Int) ≤ (a7 : Int) := Int.natCast_nonneg a7
      have ha9 : (a7 : Int) ≤ 300000 := by have := HV7.out; omega
      have hj0 : (0 : Int) ≤ (a10 : Int) := Int.natCast_nonneg a10
      have hj9 : (a10 : Int) ≤ 65536 := by omega
      have HFD := Lib.hid hfd
      have HV := Lib.hid hv
      have HXN := Lib.hid (And.intro hxn (And.intro h10 h7))
      clear hx hrd hfe hxn h10 h7 hsn hpr hfd hh1 hh9 hv m1 m2 m3 m4 m5 m6 m7 m8 m9
      gi_upto_region 14 with fail
      refine wpIn_region_R_tail (Below A.heap.size A) 7 (by kernel_rfl) (by kernel_rfl) (by kernel_rfl) (fun ⟨_, _, h⟩ => h) (Below.drew (Below.refl _ _)) ?_
      (repeat (first | (apply wpR_pass rfl; (try simp only [Act.put, List.setIfInBounds_toArray, List.set_cons_succ, List.set_cons_zero])) | (apply wpR_val rfl; (focus (intro w1 hR; obtain ⟨hc, hf⟩ := bcellB hR; (try go_simp); (try exact Eq.refl _); done)); (try simp only [Act.put, List.setIfInBounds_toArray, List.set_cons_succ, List.set_cons_zero])) | (apply wpR_call rfl; (focus (intro w1 hR; obtain ⟨hc, hf⟩ := bcellB hR; (try go_simp); (try exact And.intro rfl rfl); done)); (focus (intro w1 hR; first | exact (HFD.out w1 hR).at_ (by first | omega | (simp; done) | (simp; omega)) hR)); (try simp only [Act.put, List.setIfInBounds_toArray, List.set_cons_succ, List.set_cons_zero])) | (apply wpR_val_want rfl; (focus (intro w1 hR; obtain ⟨hc, hf⟩ := bcellB hR; (try go_simp); (try exact Eq.refl _); done)); (try simp only [Act.put, List.setIfInBounds_toArray, List.set_cons_succ, List.set_cons_zero])) | (apply wpR_call_want rfl; (focus (intro w1 hR; obtain ⟨hc, hf⟩ := bcellB hR; (try go_simp); (try exact And.intro rfl rfl); done)); (focus (intro w1 hR; first | exact (HFD.out w1 hR).at_ (by first | omega | (simp; done) | (simp; omega)) hR)); (try simp only [Act.put, List.setIfInBounds_toArray, List.set_cons_succ, List.set_cons_zero]))))
      refine wpR_nil ?_
      intro A4 hb4
      have hv4 := HV.out.below hb4
      obtain ⟨m1, m2, m3, m4, m5, m6, m7, m8, m9⟩ := HMM.out
      have hh1 := hv4.ou.h1
      have hhd := hv4.ou.hd
      have hh7 := hv4.ou.h7
      rw [m1] at hh1
      rw [m2] at hhd
      rw [m6] at hh7
      have d1 := hh1.cell (i := 0) rfl
      have d6 := hhd.cell (i := 6) (v := o.av) rfl
      have d7 := hh7.cell (i := 0) rfl
      have hsl := HB.out A4 hv4.ou.mod
      have hact := act_calls hv4.ou.pb hsl.2.2.1 hsl.2.1 a7
      rw [HAVF.out] at d6 hact
      have HACT := Lib.hid hact
      have HV4 := Lib.hid hv4
      have HB4 := Lib.hid hb4
      clear hv4 hb4 hh1 hhd hh7 hsl hact m1 m2 m3 m4 m5 m6 m7 m8 m9 cb1 cb9 cP lb1 lb9
      go_wp2_with fail
      gi_upto_region 17 with (first
        | (refine ⟨trivial, rfl, ?_⟩
           gi_at_call 80
           refine callIn_of_call HACT.out ?_
           clear HACT
           rintro e A5 ⟨he, W5, hp5, hm5⟩
           subst he
           have hv5 := HV4.out.chg hp5 hm5
           have hh6 := hv5.ou.h6
           rw [HMM.out.2.2.2.2.1] at hh6
           have c6 := hh6.cell (i := 0) rfl
           have f6 := hh6.frozen 0
           have HV5 := Lib.hid hv5
           have HM5 := Lib.hid hm5
           clear hp5 hm5 hv5 hh6)
        | fail)
      have hv6 := HV5.out.set6
      rw [HMM.out.2.2.2.2.1] at hv6
      obtain ⟨A6, hA6⟩ : ∃ A6, A6 = A5.setCell ⟨E6, 0, none⟩ (.bool true) := ⟨_, rfl⟩
      rw [← hA6] at hv6 ⊢
      have hh6 := hv6.ou.h6
      rw [HMM.out.2.2.2.2.1] at hh6
      have g6 := hh6.cell (i := 0) rfl
      have hh7 := hv6.ou.h7
      rw [HMM.out.2.2.2.2.2.1] at hh7
      have g7 := hh7.cell (i := 0) rfl
      have k7 := hh7.frozen 0
      have HV6 := Lib.hid hv6
      have HA6 := Lib.hid hA6
      clear d1 d6 d7 c6 f6 hv6 hh6 hh7 hA6
      gi_upto_region 20 with fail
      have hv7 := HV6.out.set7
      rw [HMM.out.2.2.2.2.2.1] at hv7
      obtain ⟨A7, hA7⟩ : ∃ A7, A7 = A6.setCell ⟨E7, 0, none⟩ (.int .i64 ((a7 : Int) + 1)) := ⟨_, rfl⟩
      rw [← hA7] at hv7 ⊢
      have hh9 := hv7.h9
      rw [HMM.out.2.2.2.2.2.2.1] at hh9
      have g9 := hh9.cell (i := 0) rfl
      have k9 := hh9.frozen 0
      have HV7' := Lib.hid hv7
      have HA7 := Lib.hid hA7
      clear g6 g7 k7 hv7 hh9 hA7
      gi_upto_region 21 with fail
      have hv8 := HV7'.out.set9 (x + 1)
      rw [HMM.out.2.2.2.2.2.2.1, show ((x + 1 : Nat) : Int) = (x : Int) + 1 by omega] at hv8
      obtain ⟨A8, hA8⟩ : ∃ A8, A8 = A7.setCell ⟨E9, 0, none⟩ (.int .i64 ((x : Int) + 1)) := ⟨_, rfl⟩
      rw [← hA8] at hv8 ⊢
      have hh10 := hv8.h10
      rw [HMM.out.2.2.2.2.2.2.2.1] at hh10
      have g10 := hh10.cell (i := 0) rfl
      have k10 := hh10.frozen 0
      have hh11 := hv8.h11
      rw [HMM.out.2.2.2.2.2.2.2.2] at hh11
      have g11 := hh11.cell (i := 0) rfl
      have k11 := hh11.frozen 0
      have hhd := hv8.ou.hd
      rw [HMM.out.2.1] at hhd
      have g2 := hhd.cell (i := 2) (v := .int .i64 o.a) rfl
      have hko : KeepsOthers A A8 := by
        refine (KeepsOthers.of_below HB4.out).trans ((KeepsOthers.of_mod HM5.out HV4.out.ou.pb.cells).trans ?_)
        rw [hA8, HA7.out, HA6.out]
        exact (KeepsOthers.setCell _ _ _).trans ((KeepsOthers.setCell _ _ _).trans (KeepsOthers.setCell _ _ _))
      have HV8 := Lib.hid hv8
      have HKO := Lib.hid hko
      clear g9 k9 hv8 hh10 hh11 hhd hA8 hko HV7' HV6 HV5 HV4 HA7 HA6 HM5 HB4 HV HFD
      cases hja : ((a10 : Int) == o.a)
      · gi_wp2_with fail
        have hv9 := HV8.out.set10
        rw [HMM.out.2.2.2.2.2.2.2.1] at hv9
        obtain ⟨h1, h2, h3⟩ := HXN.out
        exact ⟨HKO.out.trans (KeepsOthers.setCell _ _ _), trivial, (W5, x + 1), rfl, a7 + 1, a10 + 1, hv9, by show a10 + 1 ≤ x + 1; omega, by show a7 + 1 ≤ v7 + (x + 1); omega, by show x + 1 ≤ n; omega⟩
      · gi_wp2_with fail
        have hv9 := HV8.out.set11
        rw [HMM.out.2.2.2.2.2.2.2.2] at hv9
        obtain ⟨h1, h2, h3⟩ := HXN.out
        exact ⟨HKO.out.trans (KeepsOthers.setCell _ _ _), rfl, W5, a7 + 1, x + 1, a10, hv9, by omega⟩
    case done =>
      rintro D' ⟨Ws, pl⟩ A hD' ⟨a7, a10, hv, h10, h7, hsn⟩ hfin hdef
      have hf := hfin
      unfold Al.Fin at hf
      simp only at hf hv h10 h7 hsn
      have hfe := hf.eq
      obtain ⟨m1, m2, m3, m4, m5, m6, m7, m8, m9⟩ := HMM.out
      have hh1 := hv.ou.h1
      have hh9 := hv.h9
      have hh11 := hv.h11
      rw [m1] at hh1
      rw [m7] at hh9
      rw [m9] at hh11
      have cb1 := hh1.cell (i := 0) rfl
      have cb9 := hh9.cell (i := 0) rfl
      have cb11 := hh11.cell (i := 0) rfl
      have hpr := hv.ou.pb.pr
      have cP := hpr.hP.cell (i := 1) rfl
      have lb1 := heap_lt hh1
      have lb9 := heap_lt hh9
      have lb11 := heap_lt hh11
      have lP := heap_lt hpr.hP
      have hfd : ∀ w1, Below A.heap.size A w1 → Pur Tryd.prog 61 #[.pointer (some ⟨r, 0, none⟩), .int .i64 (pl : Nat), .bool true] w1 (.int .i64 (-1)) := fun w1 hb => by
        have h1 := rfind_true (hpr.hr.below hb) (f := ((pl : Nat) : Int)) (wf_nat (by omega))
        rw [Int.toNat_natCast, ← hfe] at h1
        exact h1
      have HFD := Lib.hid hfd
      clear hfd hfe hf hfin
      have HV := Lib.hid hv
      have HDF := Lib.hid hdef
      have HDL := Lib.hid hD'
      have HB7 : Hid (a7 ≤ 65536 * (i + 1)) := Lib.hid (by have := HV7.out; omega)
      have hi9 : (i : Int) < 2 := by omega
      clear hpr hh1 hh9 hh11 hv hdef hD' m1 m2 m3 m4 m5 m6 m7 m8 m9 h7 h10 hsn
      go_upto_region 24 with fail
      refine wp_region_R_tail (Below A.heap.size A) 10 (by kernel_rfl) (by kernel_rfl) (by first | exact Below.refl _ _ | exact below_alloc1 _ _ | exact below_alloc2 _ _ _ | exact below_alloc3 _ _ _ _ | (repeat' (first | assumption | exact Below.refl _ _ | exact below_alloc1 _ _ | exact below_alloc2 _ _ _ | exact below_alloc3 _ _ _ _ | (refine Below.drew ?_) | (refine below_wb ?_ ?_) | (refine Below.alloc ?_ ?_ _) | omega | (simp; done) | (simp; omega)))) ?_
      (repeat (first | (apply wpR_pass rfl; (try simp only [Act.put, List.setIfInBounds_toArray, List.set_cons_succ, List.set_cons_zero])) | (apply wpR_val rfl; (focus (intro w1 hR; obtain ⟨hc, hf⟩ := bcellB hR; (try go_simp); (try exact Eq.refl _); done)); (try simp only [Act.put, List.setIfInBounds_toArray, List.set_cons_succ, List.set_cons_zero])) | (apply wpR_call rfl; (focus (intro w1 hR; obtain ⟨hc, hf⟩ := bcellB hR; (try go_simp); (try exact And.intro rfl rfl); done)); (focus (intro w1 hR; first | exact (HFD.out w1 hR).at_ (by first | omega | (simp; done) | (simp; omega)) hR)); (try simp only [Act.put, List.setIfInBounds_toArray, List.set_cons_succ, List.set_cons_zero])) | (apply wpR_val_want rfl; (focus (intro w1 hR; obtain ⟨hc, hf⟩ := bcellB hR; (try go_simp); (try exact Eq.refl _); done)); (try simp only [Act.put, List.setIfInBounds_toArray, List.set_cons_succ, List.set_cons_zero])) | (apply wpR_call_want rfl; (focus (intro w1 hR; obtain ⟨hc, hf⟩ := bcellB hR; (try go_simp); (try exact And.intro rfl rfl); done)); (focus (intro w1 hR; first | exact (HFD.out w1 hR).at_ (by first | omega | (simp; done) | (simp; omega)) hR)); (try simp only [Act.put, List.setIfInBounds_toArray, List.set_cons_succ, List.set_cons_zero]))))
      refine wpR_nil (fun A4 hb4 => ?_)
      have HB4 := Lib.hid hb4
      clear hb4 cb1 cb9 cb11 cP lb1 lb9 lb11 lP
      go_wp2_with fail
      have hdl := heap_lt HDF.out
      have hou4 := HV.out.ou.below HB4.out
      rw [HMQ.out] at hou4
      have hd4 := (HB4.out.block D' hdl).trans HDF.out
      exact ⟨D' :: ds, isUd (fun U => ⟨#[U 0, U 1, .pointer (some ⟨E1, 0, none⟩), .pointer (some ⟨D, 0, none⟩), .pointer (some ⟨E2, 0, none⟩), .func (.func 99) #[] #[.pointer (some ⟨C, 0, none⟩)], .pointer (some ⟨E6, 0, none⟩), .pointer (some ⟨E7, 0, none⟩), .int .i64 (i + 1 : Nat), U 9, U 10, U 11, U 12, U 13, U 14, U 15, U 16, U 17, U 18, U 19, U 20, U 21, U 22, U 23, U 24, U 25, U 26, U 27, U 28, U 29, U 30, U 31, U 32, U 33, U 34, U 35, U 36, U 37, U 38, U 39, U 40, U 41, U 42, U 43, U 44, U 45, U 46, U 47, U 48, U 49, U 50, U 51, U 52, U 53, U 54, U 55, U 56, U 57, U 58, U 59, U 60, U 61, U 62, U 63, U 64, U 65, U 66, U 67, U 68, U 69, U 70], (D' :: ds).map mark⟩) rfl, List.nodup_cons.2 ⟨fun hm => by have := HV.out.dz D' hm; have := HDL.out; omega, HND.out⟩, fun j hj => (by
        rcases List.mem_cons.1 hj with rfl | hj
        · have h1 := HAV.out.ou.size; have := HDL.out; omega
        · exact HDS.out j hj), Ws, a7, (hou4.un).add hd4, HB7.out⟩
    case stop =>
      rintro D' c A hD' ⟨rfl, Wx, a7, a9, a10, hv, h7⟩ hdef
      obtain ⟨m1, m2, m3, m4, m5, m6, m7, m8, m9⟩ := HMM.out
      have hh1 := hv.ou.h1
      have hh9 := hv.h9
      have hh11 := hv.h11
      rw [m1] at hh1
      rw [m7] at hh9
      rw [m9] at hh11
      have cb1 := hh1.cell (i := 0) rfl
      have cb9 := hh9.cell (i := 0) rfl
      have cb11 := hh11.cell (i := 0) rfl
      have hpr := hv.ou.pb.pr
      have cP := hpr.hP.cell (i := 1) rfl
      have lb1 := heap_lt hh1
      have lb9 := heap_lt hh9
      have lb11 := heap_lt hh11
      have lP := heap_lt hpr.hP
      have HV := Lib.hid hv
      have HDF := Lib.hid hdef
      have HDL := Lib.hid hD'
      have HB7 : Hid (a7 ≤ 65536 * (i + 1)) := Lib.hid (by have := HV7.out; omega)
      have hi9 : (i : Int) < 2 := by omega
      clear hpr hh1 hh9 hh11 hv hdef hD' m1 m2 m3 m4 m5 m6 m7 m8 m9 h7
      go_upto_region 24 with fail
      refine wp_region_R_tail (Below A.heap.size A) 10 (by kernel_rfl) (by kernel_rfl) (by first | exact Below.refl _ _ | exact below_alloc1 _ _ | exact below_alloc2 _ _ _ | exact below_alloc3 _ _ _ _ | (repeat' (first | assumption | exact Below.refl _ _ | exact below_alloc1 _ _ | exact below_alloc2 _ _ _ | exact below_alloc3 _ _ _ _ | (refine Below.drew ?_) | (refine below_wb ?_ ?_) | (refine Below.alloc ?_ ?_ _) | omega | (simp; done) | (simp; omega)))) ?_
      (repeat (first | (apply wpR_pass rfl; (try simp only [Act.put, List.setIfInBounds_toArray, List.set_cons_succ, List.set_cons_zero])) | (apply wpR_val rfl; (focus (intro w1 hR; obtain ⟨hc, hf⟩ := bcellB hR; (try go_simp); (try exact Eq.refl _); done)); (try simp only [Act.put, List.setIfInBounds_toArray, List.set_cons_succ, List.set_cons_zero])) | (apply wpR_call rfl; (focus (intro w1 hR; obtain ⟨hc, hf⟩ := bcellB hR; (try go_simp); (try exact And.intro rfl rfl); done)); (focus (intro w1 hR; first | exact ().at_ (by first | omega | (simp; done) | (simp; omega)) hR)); (try simp only [Act.put, List.setIfInBounds_toArray, List.set_cons_succ, List.set_cons_zero])) | (apply wpR_val_want rfl; (focus (intro w1 hR; obtain ⟨hc, hf⟩ := bcellB hR; (try go_simp); (try exact Eq.refl _); done)); (try simp only [Act.put, List.setIfInBounds_toArray, List.set_cons_succ, List.set_cons_zero])) | (apply wpR_call_want rfl; (focus (intro w1 hR; obtain ⟨hc, hf⟩ := bcellB hR; (try go_simp); (try exact And.intro rfl rfl); done)); (focus (intro w1 hR; first | exact ().at_ (by first | omega | (simp; done) | (simp; omega)) hR)); (try simp only [Act.put, List.setIfInBounds_toArray, List.set_cons_succ, List.set_cons_zero]))))
      refine wpR_nil (fun A4 hb4 => ?_)
      have HB4 := Lib.hid hb4
      clear hb4 cb1 cb9 cb11 cP lb1 lb9 lb11 lP
      go_wp2_with fail
      have hdl := heap_lt HDF.out
      have hou4 := HV.out.ou.below HB4.out
      rw [HMQ.out] at hou4
      have hd4 := (HB4.out.block D' hdl).trans HDF.out
      exact ⟨D' :: ds, isUd (fun U => ⟨#[U 0, U 1, .pointer (some ⟨E1, 0, none⟩), .pointer (some ⟨D, 0, none⟩), .pointer (some ⟨E2, 0, none⟩), .func (.func 99) #[] #[.pointer (some ⟨C, 0, none⟩)], .pointer (some ⟨E6, 0, none⟩), .pointer (some ⟨E7, 0, none⟩), .int .i64 (i + 1 : Nat), U 9, U 10, U 11, U 12, U 13, U 14, U 15, U 16, U 17, U 18, U 19, U 20, U 21, U 22, U 23, U 24, U 25, U 26, U 27, U 28, U 29, U 30, U 31, U 32, U 33, U 34, U 35, U 36, U 37, U 38, U 39, U 40, U 41, U 42, U 43, U 44, U 45, U 46, U 47, U 48, U 49, U 50, U 51, U 52, U 53, U 54, U 55, U 56, U 57, U 58, U 59, U 60, U 61, U 62, U 63, U 64, U 65, U 66, U 67, U 68, U 69, U 70], (D' :: ds).map mark⟩) rfl, List.nodup_cons.2 ⟨fun hm => by have := HV.out.dz D' hm; have := HDL.out; omega, HND.out⟩, fun j hj => (by
        rcases List.mem_cons.1 hj with rfl | hj
        · have h1 := HAV.out.ou.size; have := HDL.out; omega
        · exact HDS.out j hj), Wx, a7, (hou4.un).add hd4, HB7.out⟩
  · clear HOU HW4 HE67 H0 HB0 HEE
    rintro a X ⟨ds, hU, hnd, hds, W', v7, hou, hv7⟩
    obtain ⟨U, rfl⟩ := hU.out
    obtain ⟨q1, q2, q3, q4, q5, q6⟩ := HOU2.out
    have hrd := hou.hd
    rw [q2] at hrd
    have lD := heap_lt hrd
    have ck := hrd.cell (i := 0) (v := .int .i64 o.kind) rfl
    have cs := hrd.cell (i := 1) (v := .bool o.second) rfl
    have ca := hrd.cell (i := 2) (v := .int .i64 o.a) rfl
    have cb := hrd.cell (i := 3) (v := .int .i64 o.b) rfl
    have cv := hrd.cell (i := 4) (v := o.wv) rfl
    have cbv := hrd.cell (i := 5) (v := o.bv) rfl
    have cav := hrd.cell (i := 6) (v := o.av) rfl
    have cag := hrd.cell (i := 7) (v := .bool o.again) rfl
    have HOI := Lib.hid hou
    have HND := Lib.hid hnd
    have HDS := Lib.hid hds
    clear hU hou hv7 hnd hds hrd q1 q2 q3 q4 q5 q6
    go_upto_region 26 with (first
      | (go_at_call 79
         refine (HPS.out X).out.mono ?_
         rintro e X1 ⟨rfl, hbx⟩
         have HBX := Lib.hid hbx
         clear hbx)
      | fail)
    have hou1 := HOI.out.below HBX.out
    have hh2 := hou1.h2
    rw [HOU2.out.2.2.1] at hh2
    have c2 := hh2.cell (i := 0) rfl
    have f2 := hh2.frozen 0
    have HO1 := Lib.hid hou1
    have HH2 := Lib.hid hh2
    clear hou1 hh2 ck cs ca cb cv cbv cav cag
    go_wp2_with fail
    have hou1 := HO1.out
    have hm2 : Mod (fun k => k = E2) X1 (X1.setCell ⟨E2, 0, none⟩ (.bool true)) := Mod.setCell _ _ _ _ rfl
    have hr2 := HH2.out.set 0 (.bool true)
    have hdn : ∀ D ∈ ds, D ≠ E2 := fun D hD => df_ne (hou1.df D hD) HH2.out
    generalize X1.setCell ⟨E2, 0, none⟩ (.bool true) = X2 at *
    obtain ⟨k1, k2, k3, k4, k5, k6⟩ := hou1.ord
    have hE2 : w.heap.size ≤ E2 := by rw [← HOU2.out.2.2.1]; omega
    refine leaves_marks ds _ (fun D hD => (hm2.block D (heap_lt (hou1.df D hD)) (hdn D hD)).trans (hou1.df D hD)) HND.out fun Z hZ => ⟨_, results_cellb rfl rfl ((hr2.mod hZ (fun e => hdn _ e rfl)).cell (i := 0) rfl), rfl, W', ?_, ?_⟩
    · exact (hou1.pb.modHi hm2 fun k e => ⟨fun a => by have := HK.out k (.inl a); omega, fun a => by have := HK.out k (.inr a); omega⟩).modHi hZ fun k e => ⟨fun a => by have := HK.out k (.inl a); have := HDS.out k e; omega, fun a => by have := HK.out k (.inr a); have := HDS.out k e; omega⟩
    · exact (hou1.mod.on hm2 fun k e => .inr (by omega)).on hZ fun k e => .inr (HDS.out k e)
end Go.Proofs.YtckbckdaffdjmaaDoor

/- The statement BitmapWalks: the walk. -/
namespace Go.Proofs.YtckbckdaffdjmaaDoor
open Go.RowKit
set_option maxRecDepth 100000
set_option linter.unusedVariables false
set_option linter.unusedSimpArgs false

/-- Where a script on one pair stands. -/
structure OneI (w X : World) (P p bw ba r bb b n N : Nat) (own : Nat → Prop) (W : List UInt64) : Prop where
  pb : PrB X P p bw ba r bb b n W own false N
  hi : ∀ k, Pr.At P p bw ba r bb k ∨ own k → w.heap.size ≤ k
  bel : Below w.heap.size w X
section
variable {w X Y : World} {P p bw ba r bb b n N : Nat} {own : Nat → Prop} {W : List UInt64} {e : Ending}
theorem OneI.chgQ (h : OneI w X P p bw ba r bb b n N own W) (hc : ChgQ X P p bw ba r bb b n N own false e Y) : ∃ W', OneI w Y P p bw ba r bb b n (N + 2) own W' := by
  obtain ⟨-, W', h1, h2⟩ := hc
  exact ⟨W', h1.more' (by omega), h.hi, h.bel.trans (h2.below h.bel.size fun k e => h.hi k (.inl e))⟩
theorem OneI.chg (h : OneI w X P p bw ba r bb b n N own W) (hc : ChgP X P p bw ba r bb b n N own false e Y) : ∃ own' W', OneI w Y P p bw ba r bb b n (N + 2) own' W' := by
  obtain ⟨-, own', W', h1, h2, h3⟩ := hc
  refine ⟨own', W', h1, fun k e => ?_, h.bel.trans (h3.below h.bel.size fun k e => h.hi k e.symm)⟩
  rcases e with e | e
  · exact h.hi k (.inl e)
  · rcases Nat.lt_or_ge k X.heap.size with hk | hk
    · exact h.hi k (.inr ((h2 k hk).1 e))
    · exact Nat.le_trans h.bel.size hk
end
set_option maxHeartbeats 16000000 in
theorem walks_calls {w : World} {sv : Value} {ops : List OpV} {f1 : Bool} {n1 : Int} {x1 : Value} {V1 : List UInt64} (hs : SlOp w sv ops) (hT : Tz w) (hn1 : (Lit.int .i64 n1).wf = true) (hx1 : RU w x1 V1) (hV1 : V1.length ≤ 17592186043904) :
    Pur Tryd.prog 10 #[.agg #[.bool f1, .int .i64 n1, x1], sv] w (.bool true) := by
  unfold Pur
  obtain ⟨w1, w0, A, b, hw1, hw0, hA, hb, hAb, hra, hrb, hb0⟩ := boxedMB w f1 n1 x1 false
  have hmade := made_calls (fr := f1) keepC_now (by omega) (Bok.new hrb) hn1 (hx1.below hb0) (by omega)
  have hat : At3 w w0 (fun k => k = b) := ⟨Mod.of_below hb0, fun k e => by omega⟩
  have HMD := Lib.hid hmade
  have HAT := Lib.hid hat
  have HS := Lib.hid hs
  have HT := Lib.hid hT
  obtain ⟨px1, cx1, e1⟩ := hx1.form
  obtain ⟨q, c, hse, hsl, -⟩ := hs
  generalize V1.length = L1 at e1
  obtain ⟨M, hM⟩ : ∃ M, M = ops.length := ⟨_, rfl⟩
  have HM := Lib.hid hM
  rw [← hM] at hse hsl
  subst e1 hse
  have ca0 := hra.cell (i := 0) rfl
  have ca1 := hra.cell (i := 1) rfl
  have ca2 := hra.cell (i := 2) rfl
  clear hM hx1 hV1 hmade hat hn1 hrb hb0 hAb hra hT
  go_enter Tryd.func10, Tryd.ntmps10
  go_upto_region 1 with fail
  rw [← hw1, ← hA]
  clear hw1 hA
  go_upto_region 2 with (first
    | (go_at_call 17
       rw [← hw0, ← hb]
       refine HMD.out.mono ?_
       rintro e w2 ⟨P, own2, rfl, hmd, hbk, hlow, hm⟩
       have HMP := Lib.hid hmd
       have HBK := Lib.hid hbk
       have HAT2 := Lib.hid (HAT.out.ask hlow hm)
       clear hmd hbk hlow hm hw0 hb ca0 ca1 ca2)
    | fail)
  obtain ⟨hP1, hP2, hP3⟩ := HMP.out
  rcases hP3 with hnil | ⟨p, bw, ba, r, bb, n, W, hpr, hno⟩
  · have cp0 := hnil.cell (i := 0) rfl
    clear hP1 hP2 hnil HMD hsl
    go_wp2_with fail
    go_ret
    exact ⟨rfl, HAT2.out.bel⟩
  · have hone : OneI w w2 P p bw ba r bb b n 2 own2 W := by
      refine ⟨⟨hpr, HBK.out, fun k hk => (hno k hk).2⟩, fun k e => ?_, HAT2.out.bel⟩
      rcases e with e | e
      · exact Nat.le_trans HAT.out.bel.size (hno k e).1
      · exact HAT2.out.own k e
    have cp0 := hpr.hP.cell (i := 0) rfl
    have H2 := Lib.hid hone
    clear hP1 hP2 hpr hno hone HMD HMP HBK HAT2 HAT
    go_wp2_with fail
    refine wp_loop_count (fun i a X => Is (fun U => ⟨#[U 0, .slice q M c, U 2, U 3, .bool false, .pointer (some ⟨P, 0, none⟩), U 6, .int .i64 i, U 8, U 9, U 10, U 11, U 12, U 13, U 14, U 15, U 16, U 17, U 18, U 19, U 20, U 21, U 22, U 23, U 24, U 25, U 26, U 27, U 28, U 29, U 30, U 31, U 32, U 33, U 34, U 35, U 36, U 37, U 38, U 39, U 40, U 41, U 42, U 43, U 44, U 45, U 46, U 47, U 48], []⟩) a ∧ ∃ own' W', OneI w X P p bw ba r bb b n (2 + 2 * i) own' W') M ⟨isU (fun U => ⟨#[U 0, .slice q M c, U 2, U 3, .bool false, .pointer (some ⟨P, 0, none⟩), U 6, .int .i64 0, U 8, U 9, U 10, U 11, U 12, U 13, U 14, U 15, U 16, U 17, U 18, U 19, U 20, U 21, U 22, U 23, U 24, U 25, U 26, U 27, U 28, U 29, U 30, U 31, U 32, U 33, U 34, U 35, U 36, U 37, U 38, U 39, U 40, U 41, U 42, U 43, U 44, U 45, U 46, U 47, U 48], []⟩) rfl, own2, W, H2.out⟩ ?_ ?_
    · clear H2 cp0
      rintro i a X hi ⟨hU, own', W', hone⟩
      obtain ⟨U, rfl⟩ := hU.out
      obtain ⟨q', c', e', -, hr⟩ := HS.out.below hone.bel
      simp only [Value.slice.injEq] at e'
      obtain ⟨rfl, -, rfl⟩ := e'
      obtain ⟨o, ho⟩ : ∃ o, ops[i]? = some o := ⟨_, List.getElem?_eq_getElem (by rw [← HM.out]; exact hi)⟩
      obtain ⟨g, off, rfl, hg, hoo, hrg⟩ := hr i o ho
      have hob : ∀ X, Below w.heap.size w X → Tz X ∧ OkOp X o := fun X h6 => by
        obtain ⟨q2, c2, e2, -, hr2⟩ := HS.out.below h6
        obtain ⟨_, _, _, _, ho2, _⟩ := hr2 i o ho
        exact ⟨HT.out.below h6, ho2⟩
      have hw0 : o.words ≠ [] → ∀ g0, o.wv.ownBlock = some g0 → g0 < w.heap.size := fun hne => (hob w (Below.refl _ _)).2.words.block hne
      obtain ⟨lb, hlb⟩ := (hob w (Below.refl _ _)).2.before
      obtain ⟨la, hla⟩ := (hob w (Below.refl _ _)).2.acts
      have hall := lawall_calls hone.pb hoo (lb := lb) (la := la) (fun Y hY => by
        have h1 : Below w.heap.size w Y := hone.bel.trans (hY.below hone.bel.size fun k e => hone.hi k (.inl e))
        exact ⟨hlb.below h1, hla.below h1, hob Y h1⟩)
      have hstep := step_calls keepC_now (by omega) hone.pb (hob X hone.bel).1 hoo (fun hne g0 e0 e1 => by have h1 := hw0 hne g0 e0; have h2 := hone.hi g0 (.inl e1); omega)
      rw [show (opL o).toArray = #[.int .i64 o.kind, .bool o.second, .int .i64 o.a, .int .i64 o.b, o.wv, o.bv, o.av, .bool o.again] from rfl] at hall hstep
      have HALL := Lib.hid hall
      have HSTEP := Lib.hid hstep
      have HONE := Lib.hid hone
      have ck : X.cell? ⟨g, off + i * 8, none⟩ = some (.int .i64 o.kind) := hrg 0 _ rfl
      have cs : X.cell? ⟨g, off + i * 8 + 1, none⟩ = some (.bool o.second) := hrg 1 _ rfl
      have ca : X.cell? ⟨g, off + i * 8 + 2, none⟩ = some (.int .i64 o.a) := hrg 2 _ rfl
      have cb : X.cell? ⟨g, off + i * 8 + 3, none⟩ = some (.int .i64 o.b) := hrg 3 _ rfl
      have cv : X.cell? ⟨g, off + i * 8 + 4, none⟩ = some (o.wv) := hrg 4 _ rfl
      have cbv : X.cell? ⟨g, off + i * 8 + 5, none⟩ = some (o.bv) := hrg 5 _ rfl
      have cav : X.cell? ⟨g, off + i * 8 + 6, none⟩ = some (o.av) := hrg 6 _ rfl
      have cag : X.cell? ⟨g, off + i * 8 + 7, none⟩ = some (.bool o.again) := hrg 7 _ rfl
      have hiM : (i : Int) < (M : Int) := by exact_mod_cast hi
      have hi0 : (0 : Int) ≤ (i : Int) := Int.natCast_nonneg i
      have hM9 : (M : Int) ≤ 1256584717715 := by omega
      clear hU hr ho hob hw0 hlb hla hall hstep hone hoo hrg hsl
      cases z14 : (o.kind == 14)
      · go_wp2_with (first
          | (go_at_call 42
             refine HSTEP.out.mono ?_
             rintro e Y hch
             have he := hch.1
             subst he
             obtain ⟨own5, W5, h5⟩ := HONE.out.chg hch
             have H5 := Lib.hid h5
             clear hch h5)
          | fail)
        exact ⟨isU (fun U => ⟨#[U 0, .slice (some ⟨g, off, none⟩) M c, U 2, U 3, .bool false, .pointer (some ⟨P, 0, none⟩), U 6, .int .i64 (i + 1 : Nat), U 8, U 9, U 10, U 11, U 12, U 13, U 14, U 15, U 16, U 17, U 18, U 19, U 20, U 21, U 22, U 23, U 24, U 25, U 26, U 27, U 28, U 29, U 30, U 31, U 32, U 33, U 34, U 35, U 36, U 37, U 38, U 39, U 40, U 41, U 42, U 43, U 44, U 45, U 46, U 47, U 48], []⟩) rfl, own5, W5, H5.out⟩
      · go_wp2_with (first
          | (go_at_call 41
             refine HALL.out.mono ?_
             rintro e Y hch
             have he := hch.1
             subst he
             obtain ⟨W5, h5⟩ := HONE.out.chgQ hch
             have H5 := Lib.hid h5
             clear hch h5)
          | fail)
        exact ⟨isU (fun U => ⟨#[U 0, .slice (some ⟨g, off, none⟩) M c, U 2, U 3, .bool false, .pointer (some ⟨P, 0, none⟩), U 6, .int .i64 (i + 1 : Nat), U 8, U 9, U 10, U 11, U 12, U 13, U 14, U 15, U 16, U 17, U 18, U 19, U 20, U 21, U 22, U 23, U 24, U 25, U 26, U 27, U 28, U 29, U 30, U 31, U 32, U 33, U 34, U 35, U 36, U 37, U 38, U 39, U 40, U 41, U 42, U 43, U 44, U 45, U 46, U 47, U 48], []⟩) rfl, own', W5, H5.out⟩
    · clear H2 cp0
      rintro a X ⟨hU, own', W', hone⟩
      obtain ⟨U, rfl⟩ := hU.out
      have HONE := Lib.hid hone
      clear hU hone
      go_wp2_with fail
      go_ret
      exact ⟨rfl, HONE.out.bel⟩
end Go.Proofs.YtckbckdaffdjmaaDoor

/- The iterator over Runs: it reads what the body writes. -/
namespace Go.Proofs.YtckbckdaffdjmaaDoor
open Go.RowKit
attribute [local go_sem] Oper.semAt_some
set_option maxRecDepth 100000
set_option linter.unusedVariables false
set_option linter.unusedSimpArgs false

namespace Bm
/-- Where the run that begins at f ends. -/
def runE (W : List UInt64) (n f : Nat) : Nat := if find (fun t => !bit W t) n f < 0 then n else (find (fun t => !bit W t) n f).toNat
theorem runE_is {W : List UInt64} {n f : Nat} (hf : f < n) (hb : bit W f = true) : f < runE W n f ∧ runE W n f ≤ n ∧ (∀ t, f ≤ t → t < runE W n f → bit W t = true) ∧ (runE W n f < n → bit W (runE W n f) = false) ∧
    ((find (fun t => !bit W t) n f = -1 ∧ runE W n f = n) ∨ find (fun t => !bit W t) n f = (runE W n f : Nat)) := by
  have h := find_is (fun t => !bit W t) n f
  unfold runE
  rcases h with ⟨h1, h2⟩ | ⟨i, h1, h2, h3, h4, h5⟩
  · rw [h1, if_pos (by decide)]
    exact ⟨hf, Nat.le_refl _, fun t a c => by have := h2 t a c; simpa using this, fun e => absurd e (Nat.lt_irrefl _), .inl ⟨rfl, rfl⟩⟩
  · rw [h1, if_neg (by omega), Int.toNat_natCast]
    have hne : i ≠ f := fun e => by rw [e] at h4; simp [hb] at h4
    exact ⟨by omega, by omega, fun t a c => by have := h5 t a c; simpa using this, fun _ => by simpa using h4, .inr rfl⟩
end Bm
namespace Rn
def enc (x : Nat × Nat) : Array Value := #[.int .i64 x.1, .int .i64 x.2]
def Rd (n : Nat) (s : List UInt64 × Nat) (x : Nat × Nat) : Prop := Bm.IsFind (Bm.bit s.1) n s.2 (x.1 : Nat) ∧ x.1 + x.2 = Bm.runE s.1 n x.1
def St (s : List UInt64 × Nat) (x : Nat × Nat) (s' : List UInt64 × Nat) : Prop := s'.2 = x.1 + x.2
end Rn
set_option maxHeartbeats 4000000 in
theorem runs_iter {W0 : World} {p bw ba n C : Nat} {V : List UInt64} (hn : n ≤ 65536) :
    IterC Tryd.prog 73 #[.pointer (some ⟨C, 0, none⟩)] Rn.enc Al.T (fun _ _ => True) (Rn.Rd n) Rn.St (Al.Fin n) (Al.Inv p bw ba n C) (V, 0) W0 := by
  constructor
  intro l J Jx W hW hJ hJx hIv hY h0
  have hi0 := hIv _ _ h0
  have c0 := hi0.box.cell (i := 0) rfl
  have hnx := next_calls hi0.bm hi0.tz (from_ := 0) (by decide)
  have HNX := Lib.hid hnx
  have HJ := Lib.hid hJ
  have HJX := Lib.hid hJx
  have HIV := Lib.hid hIv
  have HY := Lib.hid hY
  have H0 := Lib.hid h0
  have HN := Lib.hid hn
  clear hJ hJx hIv hY h0 hi0 hnx hn
  (refine callsIn_of_wp Tryd.func73 rfl trivial ?_ rfl; simp only [Tryd.ntmps73, List.size_toArray, List.length_cons, List.length_nil, Nat.reduceAdd, Nat.reduceSub, Array.replicate_succ, Array.replicate_zero, List.push_toArray, List.append_toArray, List.nil_append, List.cons_append])
  gi_wp2_with (first
    | (refine ⟨trivial, rfl, ?_⟩
       gi_at_call 31
       refine callsIn_wide.2 (HNX.out.out.mono ?_)
       clear HNX
       rintro e w1 ⟨rfl, hb1⟩
       have HJ1 := Lib.hid (HJ.out _ _ _ H0.out hb1)
       clear hb1)
    | fail)
  refine wpIn_loop_ghost (fun k a w' => ∃ s i, k = n + 1 - s.2 ∧ Is (fun U => ⟨#[.func (.yield l) #[] #[], .pointer (some ⟨C, 0, none⟩), U 2, .int .i64 i, U 4, U 5, U 6, U 7, U 8, U 9, U 10, U 11, U 12, U 13, U 14, U 15, U 16, U 17, U 18, U 19, U 20, U 21, U 22, U 23, U 24, U 25, U 26, U 27], []⟩) a ∧ Bm.IsFind (Bm.bit s.1) n s.2 i ∧ J s w') (n + 1) ⟨(V, 0), _, rfl, isU (fun U => ⟨#[.func (.yield l) #[] #[], .pointer (some ⟨C, 0, none⟩), U 2, .int .i64 (Bm.find (Bm.bit V) n 0), U 4, U 5, U 6, U 7, U 8, U 9, U 10, U 11, U 12, U 13, U 14, U 15, U 16, U 17, U 18, U 19, U 20, U 21, U 22, U 23, U 24, U 25, U 26, U 27], []⟩) rfl, Bm.find_is _ _ _, HJ1.out⟩ ?_
  clear HJ1 c0 H0
  rintro k a w1 ⟨s, i, rfl, hU, hf, hj⟩
  obtain ⟨U, rfl⟩ := hU.out
  have HJ1 := Lib.hid hj
  have HF := Lib.hid hf
  clear hU
  rcases hf with ⟨rfl, -⟩ | ⟨f, rfl, hx1, hx2, hx3, -⟩
  · clear hj
    gi_wp2_with fail
    go_end0
    exact ⟨⟨_, rfl⟩, .inl ⟨s, HJ1.out, HF.out⟩⟩
  · have hi1 := HIV.out _ _ hj
    have hnc := nextclear_calls hi1.bm hi1.tz (from_ := (f : Int)) (wf_nat (n := f) (by have := HN.out; omega))
    rw [Int.toNat_natCast] at hnc
    obtain ⟨hr1, hr2, hr3, hr4, hr5⟩ := Bm.runE_is (W := s.1) hx2 hx3
    obtain ⟨E, hE⟩ : ∃ E, E = Bm.runE s.1 n f := ⟨_, rfl⟩
    rw [← hE] at hr1 hr2 hr5
    obtain ⟨v, hv⟩ : ∃ v, v = Bm.find (fun t => !Bm.bit s.1 t) n f := ⟨_, rfl⟩
    rw [← hv] at hnc hr5
    have c1 := hi1.box.cell (i := 0) rfl
    have cn := hi1.bm.hs.cell (i := 0) rfl
    have lC := heap_lt hi1.box
    have lp := heap_lt hi1.bm.hs
    have hyy := fun w3 (h3 : Below w1.heap.size w1 w3) => HY.out s (f, E - f) w3 (HJ.out _ _ _ hj h3) ⟨HF.out, by show f + (E - f) = _; rw [← hE]; omega⟩
    have HYY := Lib.hid hyy
    have HNC := Lib.hid hnc
    have hf0 : (0 : Int) ≤ (f : Int) := Int.natCast_nonneg f
    have hn9 : (n : Int) ≤ 65536 := by have := HN.out; omega
    have hfE : (f : Int) < (E : Int) := by omega
    have hEn : (E : Int) ≤ (n : Int) := by omega
    have HX := Lib.hid (And.intro hx1 (And.intro hr1 hr2))
    clear hj hi1 hnc hr1 hr2 hr3 hr4 hE hv hyy hx1 hx2 hx3
    rcases hr5 with ⟨rfl, hEn'⟩ | rfl
    all_goals
      try (rw [show (n : Int) = (E : Int) by omega] at cn; clear hEn')
      gi_upto_region 3 with (first
        | (refine ⟨trivial, rfl, ?_⟩
           gi_at_call 35
           refine callsIn_wide.2 (HNC.out.out.mono ?_)
           clear HNC
           rintro e w3 ⟨rfl, hb3⟩
           have d1 := ((bcell hb3).1 C 0 lC).trans c1
           have dn := ((bcell hb3).1 p 0 lp).trans cn
           have HB3 := Lib.hid hb3
           clear hb3)
        | fail)
      obtain ⟨fn, tmps, assign, body, hy, hR⟩ := HYY.out w3 HB3.out
      dsimp only [Rn.enc] at hy
      rw [show ((E - f : Nat) : Int) = (E : Int) - (f : Int) by omega] at hy
      clear c1 cn
      gi_wp2_with fail
      refine ⟨rfl, hR.mono ?_⟩
      rintro e w2 (⟨rfl, ⟨s2, hs2, hj2⟩, -⟩ | ⟨rfl, hjx⟩)
      · have hi2 := HIV.out _ _ hj2
        have c2 := hi2.box.cell (i := 0) rfl
        have hnx := next_calls hi2.bm hi2.tz (from_ := (E : Int)) (wf_nat (n := E) (by omega))
        have hs3 : s2.2 = E := by have h1 : s2.2 = f + (E - f) := hs2; have := HX.out; omega
        rw [Int.toNat_natCast, ← hs3] at hnx
        have HNX := Lib.hid hnx
        have HJ2 := Lib.hid hj2
        have HS2 := Lib.hid hs3
        rw [hs3] at HNX
        clear hi2 hnx hj2 hs2 hs3 hR hy
        gi_wp2_with (first
          | (refine ⟨trivial, rfl, ?_⟩
             gi_at_call 31
             refine callsIn_wide.2 (HNX.out.out.mono ?_)
             clear HNX
             rintro e w5 ⟨rfl, hb5⟩
             have HJ5 := Lib.hid (HJ.out _ _ _ HJ2.out hb5)
             clear hb5)
          | fail)
        refine ⟨n + 1 - s2.2, by have := HS2.out; have := HX.out; omega, s2, _, rfl, isU (fun U => ⟨#[.func (.yield l) #[] #[], .pointer (some ⟨C, 0, none⟩), U 2, .int .i64 (Bm.find (Bm.bit s2.1) n E), U 4, U 5, U 6, U 7, U 8, U 9, U 10, U 11, U 12, U 13, U 14, U 15, U 16, U 17, U 18, U 19, U 20, U 21, U 22, U 23, U 24, U 25, U 26, U 27], []⟩) rfl, ?_, HJ5.out⟩
        rw [HS2.out]
        exact Bm.find_is _ _ _
      · clear hR hy
        gi_wp2_with fail
        refine bodyPost_ret (results_none rfl _ _ _) rfl ?_
        exact ⟨⟨_, rfl⟩, .inr hjx⟩
set_option maxHeartbeats 4000000 in
theorem runs_calls {w : World} {p : Nat} : Calls Tryd.prog 38 #[.pointer (some ⟨p, 0, none⟩)] w fun en w' => ∃ C, en = .returned (.func (.func 73) #[] #[.pointer (some ⟨C, 0, none⟩)]) ∧ w.heap.size ≤ C ∧ Rw w' C 32 [.pointer (some ⟨p, 0, none⟩)] ∧ Below w.heap.size w w' := by
  have h1 : Rw (w.alloc (.cells #[.pointer (some ⟨p, 0, none⟩)] 32)) w.heap.size 32 [.pointer (some ⟨p, 0, none⟩)] := heap_new _ _ _ rfl
  have H := Lib.hid (And.intro h1 (below_alloc1 w (.cells #[.pointer (some ⟨p, 0, none⟩)] 32)))
  clear h1
  go_enter Tryd.func38, Tryd.ntmps38
  go_wp2_with fail
  go_ret
  exact ⟨_, rfl, Nat.le_refl _, H.out.1, H.out.2⟩
end Go.Proofs.YtckbckdaffdjmaaDoor

/- The run that begins at or above a place: run. -/
namespace Go.Proofs.YtckbckdaffdjmaaDoor
open Go.RowKit
set_option maxRecDepth 100000
set_option linter.unusedVariables false
set_option linter.unusedSimpArgs false

section
variable {w : World} {P p bw ba r bb b n : Nat} {W : List UInt64}
set_option maxHeartbeats 4000000 in
theorem run_none (h : Pr w P p bw ba r bb b n W) {pl : Nat} (hp : pl ≤ 65536) (hf : Bm.IsFind (Bm.bit W) n pl (-1)) : Pur Tryd.prog 83 #[.pointer (some ⟨P, 0, none⟩), .int .i64 pl] w (.tuple #[.int .i64 (-1), .int .i64 0]) := by
  unfold Pur
  have hfd := rfind_true h.hr (f := ((pl : Nat) : Int)) (wf_nat (by omega))
  rw [Int.toNat_natCast, ← hf.eq] at hfd
  have HFD := Lib.hid hfd
  have cP := h.hP.cell (i := 1) rfl
  clear h hp hf hfd
  go_enter Tryd.func83, Tryd.ntmps83
  go_wp2_with (first | (go_at_call 61; refine HFD.out.out.mono ?_; rintro e w1 ⟨rfl, hb1⟩) | fail)
  refine bodyPost_ret (results_tmp2 rfl _ _ _) rfl ?_
  exact ⟨rfl, hb1⟩
set_option maxHeartbeats 4000000 in
theorem run_some (h : Pr w P p bw ba r bb b n W) {pl f : Nat} (hp : pl ≤ 65536) (hf : Bm.IsFind (Bm.bit W) n pl (f : Nat)) : Pur Tryd.prog 83 #[.pointer (some ⟨P, 0, none⟩), .int .i64 pl] w (.tuple #[.int .i64 (f : Nat), .int .i64 ((Bm.runE W n f : Nat) - (f : Nat) : Int)]) := by
  unfold Pur
  have hx : f < n ∧ Bm.bit W f = true := by
    rcases hf with ⟨h1, -⟩ | ⟨j, h1, h2, h3, h4, -⟩
    · omega
    · obtain rfl : f = j := by omega
      exact ⟨h3, h4⟩
  have hmx := h.hm.ok.max
  have hfd := rfind_true h.hr (f := ((pl : Nat) : Int)) (wf_nat (by omega))
  rw [Int.toNat_natCast, ← hf.eq] at hfd
  obtain ⟨hr1, hr2, -, -, hr5⟩ := Bm.runE_is (W := W) hx.1 hx.2
  obtain ⟨E, hE⟩ : ∃ E, E = Bm.runE W n f := ⟨_, rfl⟩
  rw [← hE] at hr1 hr2 hr5 ⊢
  have hfe : ∀ w1, Below w.heap.size w w1 → Pur Tryd.prog 61 #[.pointer (some ⟨r, 0, none⟩), .int .i64 (f : Nat), .bool false] w1 (.int .i64 (Bm.find (fun t => !Bm.bit W t) n f)) := fun w1 hb => by
    have h1 := rfind_false (h.hr.below hb) (f := ((f : Nat) : Int)) (wf_nat (by omega))
    rw [Int.toNat_natCast] at h1
    exact h1
  obtain ⟨v, hv⟩ : ∃ v, v = Bm.find (fun t => !Bm.bit W t) n f := ⟨_, rfl⟩
  rw [← hv] at hr5 hfe
  have HH := Lib.hid h
  have HFD := Lib.hid hfd
  have HFE := Lib.hid hfe
  have cP := h.hP.cell (i := 1) rfl
  have hf0 : (0 : Int) ≤ (f : Int) := Int.natCast_nonneg f
  have hfE : (f : Int) < (E : Int) := by omega
  have hE9 : (E : Int) ≤ 65536 := by omega
  have hEn0 : ¬ (E : Int) < 0 := by omega
  clear h hp hf hfd hx hE hv hfe
  rcases hr5 with ⟨rfl, hEn⟩ | rfl
  · have HEN := Lib.hid hEn
    clear hEn hmx
    go_enter Tryd.func83, Tryd.ntmps83
    go_wp2_with (first
      | (go_at_call_has 61 (Value.bool true); refine HFD.out.out.mono ?_; rintro e w1 ⟨rfl, hb1⟩
         have h1 := HH.out.below hb1
         have cP1 := h1.hP.cell (i := 1) rfl
         have HB1 := Lib.hid hb1
         clear hb1 h1)
      | (go_at_call_has 61 (Value.bool false); refine (HFE.out w1 HB1.out).out.mono ?_; rintro e w2 ⟨rfl, hb2⟩
         have h2 := (HH.out.below HB1.out).below hb2
         have cP2 := h2.hP.cell (i := 1) rfl
         have cr2 := h2.hr.hs.cell (i := 0) rfl
         rw [Bm.bools_length, ← HEN.out] at cr2
         have lr2 := heap_lt h2.hr.hs
         have HB2 := Lib.hid hb2
         clear hb2 h2)
      | fail)
    refine bodyPost_ret (results_tmp2 rfl _ _ _) rfl ?_
    exact ⟨rfl, HB1.out.trans (HB2.out.mono HB1.out.size)⟩
  · go_enter Tryd.func83, Tryd.ntmps83
    go_wp2_with (first
      | (go_at_call_has 61 (Value.bool true); refine HFD.out.out.mono ?_; rintro e w1 ⟨rfl, hb1⟩
         have h1 := HH.out.below hb1
         have cP1 := h1.hP.cell (i := 1) rfl
         have HB1 := Lib.hid hb1
         clear hb1 h1)
      | (go_at_call_has 61 (Value.bool false); refine (HFE.out w1 HB1.out).out.mono ?_; rintro e w2 ⟨rfl, hb2⟩
         have HB2 := Lib.hid hb2
         clear hb2)
      | fail)
    refine bodyPost_ret (results_tmp2 rfl _ _ _) rfl ?_
    exact ⟨rfl, HB1.out.trans (HB2.out.mono HB1.out.size)⟩
end
end Go.Proofs.YtckbckdaffdjmaaDoor

/- A range over Runs, its body changing what it ranges over: runs. (Turned from AlU by wip/w7gen/mkruns.py.) -/
namespace Go.Proofs.YtckbckdaffdjmaaDoor
open Go.RowKit
attribute [local go_sem] Oper.semAt_some
set_option maxRecDepth 100000
set_option linter.unusedVariables false
set_option linter.unusedSimpArgs false

set_option maxHeartbeats 32000000 in
theorem lawruns_calls {w : World} {P p bw ba r bb b n N : Nat} {own : Nat → Prop} {late : Bool} {o : OpV} {W : List UInt64} (h : PrB w P p bw ba r bb b n W own late N) (ho : OkOp w o) {lb la : List AcV} (hB : ∀ X, Mod (Pr.At P p bw ba r bb) w X → SlAc X o.bv lb ∧ SlAc X o.av la ∧ Tz X ∧ OkOp X o) :
    Calls Tryd.prog 44 #[.pointer (some ⟨P, 0, none⟩), .agg (opL o).toArray] w (ChgQ w P p bw ba r bb b n N own late) := by
  obtain ⟨w0, hw0⟩ : ∃ w0, w0 = ((w.alloc (.cells #[.pointer (some ⟨P, 0, none⟩)] 25)).alloc (.cells (opL o).toArray 39)).alloc (.cells #[.bool false] 4) := ⟨_, rfl⟩
  have r1 : Rw w0 w.heap.size 25 [.pointer (some ⟨P, 0, none⟩)] := by rw [hw0]; exact (heap_old _ _ _ (by simp; omega)).trans ((heap_old _ _ _ (by simp)).trans (heap_new _ _ _ rfl))
  have rd : Rw w0 (w.heap.size + 1) 39 (opL o) := by rw [hw0]; exact (heap_old _ _ _ (by simp)).trans (heap_new _ _ _ (by simp))
  have r2 : Rw w0 (w.heap.size + 2) 4 [.bool false] := by rw [hw0]; exact heap_new _ _ _ (by simp)
  have hb0 : Below w.heap.size w w0 := by rw [hw0]; exact ((below_alloc1 _ _).alloc (by simp) _).alloc (by simp; omega) _
  obtain ⟨E1, hE1⟩ : ∃ B, B = w.heap.size := ⟨_, rfl⟩
  obtain ⟨D, hD⟩ : ∃ B, B = E1 + 1 := ⟨_, rfl⟩
  obtain ⟨E2, hE2⟩ : ∃ B, B = E1 + 2 := ⟨_, rfl⟩
  rw [← hE1] at r1 rd r2
  rw [← hD] at rd
  rw [← hE2] at r2
  have HK : Hid (∀ k, Pr.At P p bw ba r bb k ∨ own k → k < w.heap.size) := Lib.hid fun k e => e.elim (h.pr.lt k) (h.bk.lt k)
  have h0 := h.below hb0
  have c1 := r1.cell (i := 0) rfl
  have cp := h0.pr.hP.cell (i := 0) rfl
  have lE1 := heap_lt r1
  have lD := heap_lt rd
  have hmx := h.pr.hm.ok.max
  obtain ⟨qa, caa, hava, -, -⟩ := (hB w (Mod.refl _ _)).2.1
  generalize la.length = LA at hava
  have HAVF := Lib.hid hava
  clear hava
  have HO := Lib.hid ho
  have HB := Lib.hid hB
  have H0 := Lib.hid h0
  have HB0 := Lib.hid hb0
  have HR1 := Lib.hid r1
  have HRD := Lib.hid rd
  have HR2 := Lib.hid r2
  have HEE := Lib.hid (And.intro hE1 (And.intro hD hE2))
  rw [show (opL o).toArray = #[.int .i64 o.kind, .bool o.second, .int .i64 o.a, .int .i64 o.b, o.wv, o.bv, o.av, .bool o.again] from rfl] at hw0 ⊢
  clear h ho hB h0 hb0 r1 rd r2
  (refine callsIn_wide (n := 0).1 (callsIn_of_wp_marks Tryd.func44 rfl trivial (wpIn_wide.2 ?_) rfl); simp only [Tryd.ntmps44, List.size_toArray, List.length_cons, List.length_nil, Nat.reduceAdd, Nat.reduceSub, Array.replicate_succ, Array.replicate_zero, List.push_toArray, List.append_toArray, List.nil_append, List.cons_append])
  go_upto_region 1 with fail
  rw [← hw0, ← hE1, ← hE2, ← hD]
  clear hw0 hE1 hE2 hD
  go_upto_region 2 with (first
    | (go_at_call 38; refine runs_calls.mono ?_; rintro e w1 ⟨C, rfl, hC, hrc, hb1⟩
       have HRC := Lib.hid hrc
       have HB1 := Lib.hid hb1
       have HHC := Lib.hid hC
       clear hrc hb1 hC)
    | fail)
  clear c1 cp
  have hb01 := HB0.out.trans (HB1.out.mono HB0.out.size)
  have hrd := HRD.out.below HB1.out
  have c1 := (HR1.out.below HB1.out).cell (i := 0) rfl
  have ck := hrd.cell (i := 0) (v := .int .i64 o.kind) rfl
  have cs := hrd.cell (i := 1) (v := .bool o.second) rfl
  have ca := hrd.cell (i := 2) (v := .int .i64 o.a) rfl
  have cb := hrd.cell (i := 3) (v := .int .i64 o.b) rfl
  have cv := hrd.cell (i := 4) (v := o.wv) rfl
  have cbv := hrd.cell (i := 5) (v := o.bv) rfl
  have cav := hrd.cell (i := 6) (v := o.av) rfl
  have cag := hrd.cell (i := 7) (v := .bool o.again) rfl
  have hbf := before_calls (H0.out.below HB1.out) (HO.out.below hb01) (l := lb) (fun X hX => by have h1 := HB.out X ((Mod.of_below hb01).trans hX); exact ⟨h1.1, h1.2.2.1⟩)
  rw [show (opL o).toArray = #[.int .i64 o.kind, .bool o.second, .int .i64 o.a, .int .i64 o.b, o.wv, o.bv, o.av, .bool o.again] from rfl] at hbf
  have HBF := Lib.hid hbf
  clear hb01 hrd hbf
  go_upto_region 3 with (first
    | (go_at_call 78
       refine HBF.out.mono ?_
       clear HBF
       rintro e w2 ⟨he, W2, hp2, hm2⟩
       subst he
       have HP2 := Lib.hid hp2
       have HM2 := Lib.hid hm2
       clear hp2 hm2)
    | fail)
  clear c1 ck cs ca cb cv cbv cav cag
  have hfn : ∀ X, (binOp .eql 65 (.func (.func 73) #[] #[.pointer (some ⟨C, 0, none⟩)]) .nilFunc).run Tryd.prog X = .ok (.bool false) X := fun X => by kernel_rfl
  obtain ⟨w4, hw4⟩ : ∃ w4, w4 = (w2.alloc (.cells #[.bool true] 4)).alloc (.cells #[.int .i64 0] 3) := ⟨_, rfl⟩
  obtain ⟨E6, hE6⟩ : ∃ B, B = w2.heap.size := ⟨_, rfl⟩
  obtain ⟨E7, hE7⟩ : ∃ B, B = E6 + 1 := ⟨_, rfl⟩
  have r6 : Rw w4 E6 4 [.bool true] := by rw [hw4, hE6]; exact (heap_old _ _ _ (by simp)).trans (heap_new _ _ _ rfl)
  have r7 : Rw w4 E7 3 [.int .i64 ((0 : Nat) : Int)] := by rw [hw4, hE7, hE6]; exact heap_new _ _ _ (by simp)
  have hb4 : Below w2.heap.size w2 w4 := by rw [hw4]; exact (below_alloc1 _ _).alloc (by simp) _
  obtain ⟨m0, hm0⟩ : ∃ m0 : AlN, m0 = ⟨E1, D, E2, C, E6, E7, 0, 0, 0⟩ := ⟨_, rfl⟩
  have hou : OuV w P p bw ba r bb b n N own late o [] m0 w4 W2 0 := by
    obtain ⟨q1, q2, q3⟩ := HEE.out
    have l1 := heap_lt HR1.out
    have ld := heap_lt HRD.out
    have l2 := heap_lt HR2.out
    have lc := heap_lt HRC.out
    have hs1 := HB1.out.size
    have hs2 := HM2.out.size
    have hcg := HHC.out
    have hn : ∀ k, w.heap.size ≤ k → ¬ Pr.At P p bw ba r bb k := fun k hk a => by have := HK.out k (.inl a); omega
    have hm : Mod (Pr.At P p bw ba r bb) w1 w4 := HM2.out.onB hb4
    subst hm0
    exact ⟨HP2.out.below hb4, (((Mod.of_below HB0.out).onB HB1.out).trans HM2.out).onB hb4, HK.out, ⟨by show w.heap.size ≤ E1; omega, by show E1 < D; omega, by show D < E2; omega, by show E2 < C; omega, by show C < E6; omega, by show E6 < E7; omega⟩,
      (HR1.out.below HB1.out).mod hm (hn _ (by omega)), (HRD.out.below HB1.out).mod hm (hn _ (by omega)), (HR2.out.below HB1.out).mod hm (hn _ (by omega)), HRC.out.mod hm (hn _ (by omega)), r6, r7, fun D hD => (by cases hD)⟩
  have HOU := Lib.hid hou
  have HW4 := Lib.hid hw4
  have HE67 := Lib.hid (And.intro hE6 hE7)
  have HM0 := Lib.hid hm0
  clear hou r6 r7 hb4 hw4 hE6 hE7 hm0 HR1 HRD HR2 HRC HB1 HHC HP2 HM2 lE1 lD
  go_wp2_with fail
  rw [← HW4.out, ← HE67.out.1, ← HE67.out.2]
  obtain ⟨np, hnp⟩ : ∃ np : Nat, np = (if o.again = true then 2 else 1) := ⟨_, rfl⟩
  have hnp2 : np ≤ 2 := by rw [hnp]; split <;> omega
  have hps : ∀ X : World, Pur Tryd.prog 79 #[.agg #[.int .i64 o.kind, .bool o.second, .int .i64 o.a, .int .i64 o.b, o.wv, o.bv, o.av, .bool o.again]] X (.int .i64 (np : Int)) := fun X => by
    have h1 := passes_calls (w := X) o
    rw [show (if o.again = true then (2 : Int) else 1) = (np : Int) by rw [hnp]; cases o.again <;> rfl] at h1
    exact h1
  have HPS := Lib.hid hps
  have HOU2 : Hid (m0.e1 = E1 ∧ m0.d = D ∧ m0.e2 = E2 ∧ m0.c = C ∧ m0.e6 = E6 ∧ m0.e7 = E7) := Lib.hid (by rw [HM0.out]; exact ⟨rfl, rfl, rfl, rfl, rfl, rfl⟩)
  clear hnp hps HM0
  refine wp_loop_count (fun i a X => ∃ ds : List Nat, Is (fun U => ⟨#[U 0, U 1, .pointer (some ⟨E1, 0, none⟩), .pointer (some ⟨D, 0, none⟩), .pointer (some ⟨E2, 0, none⟩), .func (.func 73) #[] #[.pointer (some ⟨C, 0, none⟩)], .pointer (some ⟨E6, 0, none⟩), .pointer (some ⟨E7, 0, none⟩), .int .i64 i, U 9, U 10, U 11, U 12, U 13, U 14, U 15, U 16, U 17, U 18, U 19, U 20, U 21, U 22, U 23, U 24, U 25, U 26, U 27, U 28, U 29, U 30, U 31, U 32, U 33, U 34, U 35, U 36, U 37, U 38, U 39, U 40, U 41, U 42, U 43, U 44, U 45, U 46, U 47, U 48, U 49, U 50, U 51, U 52, U 53, U 54, U 55, U 56, U 57, U 58, U 59, U 60, U 61, U 62, U 63, U 64, U 65, U 66, U 67, U 68, U 69, U 70, U 71, U 72, U 73, U 74, U 75, U 76, U 77, U 78, U 79, U 80, U 81, U 82, U 83, U 84], ds.map mark⟩) a ∧ ds.Nodup ∧ (∀ D ∈ ds, w.heap.size ≤ D) ∧ ∃ W' v7, OuV w P p bw ba r bb b n N own late o ds m0 X W' v7 ∧ v7 ≤ 65536 * i) np ⟨[], isUd (fun U => ⟨#[U 0, U 1, .pointer (some ⟨E1, 0, none⟩), .pointer (some ⟨D, 0, none⟩), .pointer (some ⟨E2, 0, none⟩), .func (.func 73) #[] #[.pointer (some ⟨C, 0, none⟩)], .pointer (some ⟨E6, 0, none⟩), .pointer (some ⟨E7, 0, none⟩), .int .i64 0, U 9, U 10, U 11, U 12, U 13, U 14, U 15, U 16, U 17, U 18, U 19, U 20, U 21, U 22, U 23, U 24, U 25, U 26, U 27, U 28, U 29, U 30, U 31, U 32, U 33, U 34, U 35, U 36, U 37, U 38, U 39, U 40, U 41, U 42, U 43, U 44, U 45, U 46, U 47, U 48, U 49, U 50, U 51, U 52, U 53, U 54, U 55, U 56, U 57, U 58, U 59, U 60, U 61, U 62, U 63, U 64, U 65, U 66, U 67, U 68, U 69, U 70, U 71, U 72, U 73, U 74, U 75, U 76, U 77, U 78, U 79, U 80, U 81, U 82, U 83, U 84], ([] : List Nat).map mark⟩) rfl, List.nodup_nil, fun D hD => (by cases hD), W2, 0, HOU.out, Nat.zero_le _⟩ ?_ ?_
  · clear HOU HW4 HE67 H0 HB0 HEE
    rintro i a X hi ⟨ds, hU, hnd, hds, W', v7, hou, hv7⟩
    obtain ⟨U, rfl⟩ := hU.out
    obtain ⟨q1, q2, q3, q4, q5, q6⟩ := HOU2.out
    have hrd := hou.hd
    rw [q2] at hrd
    have lD := heap_lt hrd
    have ck := hrd.cell (i := 0) (v := .int .i64 o.kind) rfl
    have cs := hrd.cell (i := 1) (v := .bool o.second) rfl
    have ca := hrd.cell (i := 2) (v := .int .i64 o.a) rfl
    have cb := hrd.cell (i := 3) (v := .int .i64 o.b) rfl
    have cv := hrd.cell (i := 4) (v := o.wv) rfl
    have cbv := hrd.cell (i := 5) (v := o.bv) rfl
    have cav := hrd.cell (i := 6) (v := o.av) rfl
    have cag := hrd.cell (i := 7) (v := .bool o.again) rfl
    have hi' : (i : Int) < (np : Int) := by exact_mod_cast hi
    have hi0 : (0 : Int) ≤ (i : Int) := Int.natCast_nonneg i
    have hi2 : i < 2 := by omega
    have HOI := Lib.hid hou
    have HV7 := Lib.hid hv7
    have HND := Lib.hid hnd
    have HDS := Lib.hid hds
    clear hU hou hv7 hnd hds hrd q1 q2 q3 q4 q5 q6
    go_upto_region 12 with (first
      | (go_at_call 79
         refine (HPS.out X).out.mono ?_
         rintro e X1 ⟨rfl, hbx⟩
         have HBX := Lib.hid hbx
         clear hbx)
      | fail)
    clear ck cs ca cb cv cbv cav cag
    have hou1 := HOI.out.below HBX.out
    obtain ⟨Y, hY⟩ : ∃ Y, Y = ((X1.alloc (.cells #[.int .i64 0] 3)).alloc (.cells #[.int .i64 0] 3)).alloc (.cells #[.bool false] 4) := ⟨_, rfl⟩
    obtain ⟨E9, hE9⟩ : ∃ B, B = X1.heap.size := ⟨_, rfl⟩
    obtain ⟨E10, hE10⟩ : ∃ B, B = E9 + 1 := ⟨_, rfl⟩
    obtain ⟨E11, hE11⟩ : ∃ B, B = E10 + 1 := ⟨_, rfl⟩
    have r9 : Rw Y E9 3 [.int .i64 ((0 : Nat) : Int)] := by rw [hY, hE9]; exact (heap_old _ _ _ (by simp; omega)).trans ((heap_old _ _ _ (by simp)).trans (heap_new _ _ _ rfl))
    have r10 : Rw Y E10 3 [.int .i64 ((0 : Nat) : Int)] := by rw [hY, hE10, hE9]; exact (heap_old _ _ _ (by simp)).trans (heap_new _ _ _ (by simp))
    have r11 : Rw Y E11 4 [.bool false] := by rw [hY, hE11, hE10, hE9]; exact heap_new _ _ _ (by simp)
    have hbY : Below X1.heap.size X1 Y := by rw [hY]; exact ((below_alloc1 _ _).alloc (by simp) _).alloc (by simp; omega) _
    obtain ⟨m, hm⟩ : ∃ m : AlN, m = { m0 with e9 := E9, e10 := E10, e11 := E11 } := ⟨_, rfl⟩
    have hav : AlV w P p bw ba r bb b n N own late o ds m Y.heap.size Y W' v7 0 0 false := by
      have l7 := heap_lt hou1.h7
      have l11 := heap_lt r11
      subst hm
      exact ⟨(hou1.below hbY).re E9 E10 E11, ⟨by show m0.e7 < E9; omega, by show E9 < E10; omega, by show E10 < E11; omega, l11⟩, r9, r10, r11, Nat.le_refl _, fun D hD => Nat.lt_of_lt_of_le (heap_lt (hou1.df D hD)) hbY.size⟩
    have hmm : m.e1 = E1 ∧ m.d = D ∧ m.e2 = E2 ∧ m.c = C ∧ m.e6 = E6 ∧ m.e7 = E7 ∧ m.e9 = E9 ∧ m.e10 = E10 ∧ m.e11 = E11 := by
      obtain ⟨q1, q2, q3, q4, q5, q6⟩ := HOU2.out
      rw [hm]; exact ⟨q1, q2, q3, q4, q5, q6, rfl, rfl, rfl⟩
    have HAV := Lib.hid hav
    have HMM := Lib.hid hmm
    have HMQ := Lib.hid hm
    rw [← hY, ← hE9, ← hE10, ← hE11]
    clear hou1 hY hE9 hE10 hE11 r9 r10 r11 hbY hm hav hmm HOI HBX
    go_wp2_with fail
    refine wp_range (a₁ := ?fr) (s0 := (W', 0)) (hg := rfl) (eg := fun args w => by kernel_rfl) (hc := runs_iter (p := p) (bw := bw) (ba := ba) (n := n) (C := C) (V := W') hmx) (hps := fun _ => rfl) (hT := fun _ _ h => KeepsOthers.of_below h)
      (hKt := fun _ _ => trivial) (hKb := fun _ _ _ _ _ _ _ => trivial) (I := fun s A => ∃ a7 a10, AlV w P p bw ba r bb b n N own late o ds m Y.heap.size A s.1 a7 s.2 a10 false ∧ a10 ≤ s.2 ∧ a7 ≤ v7 + s.2 ∧ s.2 ≤ n)
      (Ix := fun c A => c = .exit 2 ∧ ∃ Wx a7 a9 a10, AlV w P p bw ba r bb b n N own late o ds m Y.heap.size A Wx a7 a9 a10 true ∧ a7 ≤ v7 + 65536 ∧ a9 ≤ n) ?hIT ?hIxT ?hI ?hIx ?h0 ?hIv (hassign := ?assign) (hbody := ?body) (hdone := ?done) (hstop := ?stop)
    case assign =>
      intro l x A K hK
      simp only [Rn.enc]
      gi_wp2
      exact hK
    case hIT => exact fun s A B ⟨a7, a10, h1, h2⟩ ht => ⟨a7, a10, h1.below ht, h2⟩
    case hIxT => exact fun c A B ⟨h0, Wx, a7, a9, a10, h1, h2⟩ ht => ⟨h0, Wx, a7, a9, a10, h1.below ht, h2⟩
    case hI =>
      rintro s A l x x' ⟨a7, a10, h1, h2⟩ hl ho hc
      exact ⟨a7, a10, h1.step (mod_putObj _ _ _) fun k e => by subst e; exact hl, h2⟩
    case hIx =>
      rintro c A l x x' ⟨h0, Wx, a7, a9, a10, h1, h2⟩ hl ho hc
      exact ⟨h0, Wx, a7, a9, a10, h1.step (mod_putObj _ _ _) fun k e => by subst e; exact hl, h2⟩
    case h0 => exact fun W1 hb => ⟨v7, 0, HAV.out.below hb, Nat.le_refl _, Nat.le_refl _, Nat.zero_le _⟩
    case hIv =>
      rintro s A ⟨a7, a10, h1, -⟩
      refine ⟨h1.ou.pb.pr.hm, ?_, (HB.out A h1.ou.mod).2.2.1⟩
      have h2 := h1.ou.hc
      rw [HMM.out.2.2.2.1] at h2
      exact h2
    case body =>
      rintro l ⟨Ws, pl⟩ ⟨f, cn⟩ A ⟨a7, a10, hv, h10, h7, hsn⟩ ⟨hx, hxe⟩
      simp only at hx hxe hv h10 h7 hsn
      have hxn : pl ≤ f ∧ f < n ∧ Bm.bit Ws f = true := by
        rcases hx with ⟨h1, -⟩ | ⟨j, h1, h2, h3, h4, -⟩
        · omega
        · obtain rfl : f = j := by omega
          exact ⟨h2, h3, h4⟩
      obtain ⟨hr1, hr2, -, -, -⟩ := Bm.runE_is hxn.2.1 hxn.2.2
      have hpr := hv.ou.pb.pr
      have hrun := run_some hpr (by omega) hx
      rw [← hxe, show ((f + cn : Nat) : Int) - (f : Nat) = (cn : Int) by omega] at hrun
      rw [← hxe] at hr1 hr2
      obtain ⟨m1, m2, m3, m4, m5, m6, m7, m8, m9⟩ := HMM.out
      have hh1 := hv.ou.h1
      have hh9 := hv.h9
      rw [m1] at hh1
      rw [m7] at hh9
      have cb1 := hh1.cell (i := 0) rfl
      have cb9 := hh9.cell (i := 0) rfl
      have hx0 : (0 : Int) ≤ (f : Int) := Int.natCast_nonneg f
      have hc0 : (0 : Int) ≤ (cn : Int) := Int.natCast_nonneg cn
      have hx9 : (f : Int) + (cn : Int) ≤ 65536 := by omega
      have ha0 : (0 : Int) ≤ (a7 : Int) := Int.natCast_nonneg a7
      have ha9 : (a7 : Int) ≤ 300000 := by have := HV7.out; omega
      have hj0 : (0 : Int) ≤ (a10 : Int) := Int.natCast_nonneg a10
      have hj9 : (a10 : Int) ≤ 65536 := by omega
      have HRUN := Lib.hid hrun
      have HV := Lib.hid hv
      have HXN := Lib.hid (And.intro hxn.1 (And.intro h10 (And.intro h7 (And.intro hr1 hr2))))
      clear hx hxe hxn h10 h7 hsn hpr hrun hh1 hh9 hv hr1 hr2 m1 m2 m3 m4 m5 m6 m7 m8 m9
      gi_upto_region 16 with (first
        | (refine ⟨trivial, rfl, ?_⟩
           gi_at_call 83
           refine callIn_of_call HRUN.out.out ?_
           clear HRUN
           rintro e A4 ⟨rfl, hb4⟩
           have hv4 := HV.out.below hb4
           obtain ⟨m1, m2, m3, m4, m5, m6, m7, m8, m9⟩ := HMM.out
           have hh1 := hv4.ou.h1
           have hhd := hv4.ou.hd
           have hh7 := hv4.ou.h7
           rw [m1] at hh1
           rw [m2] at hhd
           rw [m6] at hh7
           have d1 := hh1.cell (i := 0) rfl
           have d6 := hhd.cell (i := 6) (v := o.av) rfl
           have d7 := hh7.cell (i := 0) rfl
           have hsl := HB.out A4 hv4.ou.mod
           have hact := act_calls hv4.ou.pb hsl.2.2.1 hsl.2.1 a7
           rw [HAVF.out] at d6 hact
           have HACT := Lib.hid hact
           have HV4 := Lib.hid hv4
           have HB4 := Lib.hid hb4
           clear hv4 hb4 hh1 hhd hh7 hsl hact m1 m2 m3 m4 m5 m6 m7 m8 m9)
        | fail)
      clear cb1 cb9
      gi_upto_region 19 with (first
        | (refine ⟨trivial, rfl, ?_⟩
           gi_at_call 80
           refine callIn_of_call HACT.out ?_
           clear HACT
           rintro e A5 ⟨he, W5, hp5, hm5⟩
           subst he
           have hv5 := HV4.out.chg hp5 hm5
           have hh6 := hv5.ou.h6
           rw [HMM.out.2.2.2.2.1] at hh6
           have c6 := hh6.cell (i := 0) rfl
           have f6 := hh6.frozen 0
           have HV5 := Lib.hid hv5
           have HM5 := Lib.hid hm5
           clear hp5 hm5 hv5 hh6)
        | fail)
      have hv6 := HV5.out.set6
      rw [HMM.out.2.2.2.2.1] at hv6
      obtain ⟨A6, hA6⟩ : ∃ A6, A6 = A5.setCell ⟨E6, 0, none⟩ (.bool true) := ⟨_, rfl⟩
      rw [← hA6] at hv6 ⊢
      have hh6 := hv6.ou.h6
      rw [HMM.out.2.2.2.2.1] at hh6
      have g6 := hh6.cell (i := 0) rfl
      have hh7 := hv6.ou.h7
      rw [HMM.out.2.2.2.2.2.1] at hh7
      have g7 := hh7.cell (i := 0) rfl
      have k7 := hh7.frozen 0
      have HV6 := Lib.hid hv6
      have HA6 := Lib.hid hA6
      clear d1 d6 d7 c6 f6 hv6 hh6 hh7 hA6
      gi_upto_region 22 with fail
      have hv7 := HV6.out.set7
      rw [HMM.out.2.2.2.2.2.1] at hv7
      obtain ⟨A7, hA7⟩ : ∃ A7, A7 = A6.setCell ⟨E7, 0, none⟩ (.int .i64 ((a7 : Int) + 1)) := ⟨_, rfl⟩
      rw [← hA7] at hv7 ⊢
      have hh9 := hv7.h9
      rw [HMM.out.2.2.2.2.2.2.1] at hh9
      have g9 := hh9.cell (i := 0) rfl
      have k9 := hh9.frozen 0
      have HV7' := Lib.hid hv7
      have HA7 := Lib.hid hA7
      clear g6 g7 k7 hv7 hh9 hA7
      gi_upto_region 23 with fail
      have hv8 := HV7'.out.set9 (f + cn)
      rw [HMM.out.2.2.2.2.2.2.1, show ((f + cn : Nat) : Int) = (f : Int) + (cn : Int) by omega] at hv8
      obtain ⟨A8, hA8⟩ : ∃ A8, A8 = A7.setCell ⟨E9, 0, none⟩ (.int .i64 ((f : Int) + (cn : Int))) := ⟨_, rfl⟩
      rw [← hA8] at hv8 ⊢
      have hh10 := hv8.h10
      rw [HMM.out.2.2.2.2.2.2.2.1] at hh10
      have g10 := hh10.cell (i := 0) rfl
      have k10 := hh10.frozen 0
      have hh11 := hv8.h11
      rw [HMM.out.2.2.2.2.2.2.2.2] at hh11
      have g11 := hh11.cell (i := 0) rfl
      have k11 := hh11.frozen 0
      have hhd := hv8.ou.hd
      rw [HMM.out.2.1] at hhd
      have g2 := hhd.cell (i := 2) (v := .int .i64 o.a) rfl
      have hko : KeepsOthers A A8 := by
        refine (KeepsOthers.of_below HB4.out).trans ((KeepsOthers.of_mod HM5.out HV4.out.ou.pb.cells).trans ?_)
        rw [hA8, HA7.out, HA6.out]
        exact (KeepsOthers.setCell _ _ _).trans ((KeepsOthers.setCell _ _ _).trans (KeepsOthers.setCell _ _ _))
      have HV8 := Lib.hid hv8
      have HKO := Lib.hid hko
      clear g9 k9 hv8 hh10 hh11 hhd hA8 hko HV7' HV6 HV5 HV4 HA7 HA6 HM5 HB4 HV
      cases hja : ((a10 : Int) == o.a)
      · gi_wp2_with fail
        have hv9 := HV8.out.set10
        rw [HMM.out.2.2.2.2.2.2.2.1] at hv9
        obtain ⟨h1, h2, h3, h4, h5⟩ := HXN.out
        exact ⟨HKO.out.trans (KeepsOthers.setCell _ _ _), trivial, (W5, f + cn), rfl, a7 + 1, a10 + 1, hv9, by show a10 + 1 ≤ f + cn; omega, by show a7 + 1 ≤ v7 + (f + cn); omega, by show f + cn ≤ n; omega⟩
      · gi_wp2_with fail
        have hv9 := HV8.out.set11
        rw [HMM.out.2.2.2.2.2.2.2.2] at hv9
        obtain ⟨h1, h2, h3, h4, h5⟩ := HXN.out
        exact ⟨HKO.out.trans (KeepsOthers.setCell _ _ _), rfl, W5, a7 + 1, f + cn, a10, hv9, by omega, by omega⟩
    case done =>
      rintro D' ⟨Ws, pl⟩ A hD' ⟨a7, a10, hv, h10, h7, hsn⟩ hfin hdef
      have hf := hfin
      unfold Al.Fin at hf
      simp only at hf hv h10 h7 hsn
      obtain ⟨m1, m2, m3, m4, m5, m6, m7, m8, m9⟩ := HMM.out
      have hh1 := hv.ou.h1
      have hh9 := hv.h9
      have hh11 := hv.h11
      rw [m1] at hh1
      rw [m7] at hh9
      rw [m9] at hh11
      have cb1 := hh1.cell (i := 0) rfl
      have cb9 := hh9.cell (i := 0) rfl
      have hpr := hv.ou.pb.pr
      have hrun := run_none hpr (pl := pl) (by omega) hf
      clear hf
      have HRUN := Lib.hid hrun
      have HV := Lib.hid hv
      have HDF := Lib.hid hdef
      have HDL := Lib.hid hD'
      have HB7 : Hid (a7 ≤ 65536 * (i + 1)) := Lib.hid (by have := HV7.out; omega)
      have hi9 : (i : Int) < 2 := by omega
      clear hpr hrun hh1 hh9 hh11 hv hdef hD' m1 m2 m3 m4 m5 m6 m7 m8 m9 h7 h10 hsn hfin
      go_upto_region 27 with (first
        | (go_at_call 83
           refine HRUN.out.out.mono ?_
           clear HRUN
           rintro e A4 ⟨rfl, hb4⟩
           have hv4 := HV.out.below hb4
           have hh11 := hv4.h11
           rw [HMM.out.2.2.2.2.2.2.2.2] at hh11
           have d11 := hh11.cell (i := 0) rfl
           have HB4 := Lib.hid hb4
           clear hb4 hv4 hh11)
        | fail)
      clear cb1 cb9
      go_wp2_with fail
      have hdl := heap_lt HDF.out
      have hou4 := HV.out.ou.below HB4.out
      rw [HMQ.out] at hou4
      have hd4 := (HB4.out.block D' hdl).trans HDF.out
      exact ⟨D' :: ds, isUd (fun U => ⟨#[U 0, U 1, .pointer (some ⟨E1, 0, none⟩), .pointer (some ⟨D, 0, none⟩), .pointer (some ⟨E2, 0, none⟩), .func (.func 73) #[] #[.pointer (some ⟨C, 0, none⟩)], .pointer (some ⟨E6, 0, none⟩), .pointer (some ⟨E7, 0, none⟩), .int .i64 (i + 1 : Nat), U 9, U 10, U 11, U 12, U 13, U 14, U 15, U 16, U 17, U 18, U 19, U 20, U 21, U 22, U 23, U 24, U 25, U 26, U 27, U 28, U 29, U 30, U 31, U 32, U 33, U 34, U 35, U 36, U 37, U 38, U 39, U 40, U 41, U 42, U 43, U 44, U 45, U 46, U 47, U 48, U 49, U 50, U 51, U 52, U 53, U 54, U 55, U 56, U 57, U 58, U 59, U 60, U 61, U 62, U 63, U 64, U 65, U 66, U 67, U 68, U 69, U 70, U 71, U 72, U 73, U 74, U 75, U 76, U 77, U 78, U 79, U 80, U 81, U 82, U 83, U 84], (D' :: ds).map mark⟩) rfl, List.nodup_cons.2 ⟨fun hm => by have := HV.out.dz D' hm; have := HDL.out; omega, HND.out⟩, fun j hj => (by
        rcases List.mem_cons.1 hj with rfl | hj
        · have h1 := HAV.out.ou.size; have := HDL.out; omega
        · exact HDS.out j hj), Ws, a7, (hou4.un).add hd4, HB7.out⟩
    case stop =>
      rintro D' c A hD' ⟨rfl, Wx, a7, a9, a10, hv, h7, hn9⟩ hdef
      obtain ⟨m1, m2, m3, m4, m5, m6, m7, m8, m9⟩ := HMM.out
      have hh1 := hv.ou.h1
      have hh9 := hv.h9
      have hh11 := hv.h11
      rw [m1] at hh1
      rw [m7] at hh9
      rw [m9] at hh11
      have cb1 := hh1.cell (i := 0) rfl
      have cb9 := hh9.cell (i := 0) rfl
      have hpr := hv.ou.pb.pr
      obtain ⟨rf, rc, hrun⟩ : ∃ rf rc : Int, Pur Tryd.prog 83 #[.pointer (some ⟨P, 0, none⟩), .int .i64 a9] A (.tuple #[.int .i64 rf, .int .i64 rc]) := by
        rcases Bm.find_is (Bm.bit Wx) n a9 with ⟨h1, h2⟩ | ⟨j, h1, h2⟩
        · exact ⟨_, _, run_none hpr (by omega) (.inl ⟨rfl, h2⟩)⟩
        · exact ⟨_, _, run_some hpr (by omega) (.inr ⟨j, rfl, h2⟩)⟩
      have HRUN := Lib.hid hrun
      have HV := Lib.hid hv
      have HDF := Lib.hid hdef
      have HDL := Lib.hid hD'
      have HB7 : Hid (a7 ≤ 65536 * (i + 1)) := Lib.hid (by have := HV7.out; omega)
      have hi9 : (i : Int) < 2 := by omega
      clear hpr hrun hh1 hh9 hh11 hv hdef hD' m1 m2 m3 m4 m5 m6 m7 m8 m9 h7
      go_upto_region 27 with (first
        | (go_at_call 83
           refine HRUN.out.out.mono ?_
           clear HRUN
           rintro e A4 ⟨rfl, hb4⟩
           have hv4 := HV.out.below hb4
           have hh11 := hv4.h11
           rw [HMM.out.2.2.2.2.2.2.2.2] at hh11
           have d11 := hh11.cell (i := 0) rfl
           have HB4 := Lib.hid hb4
           clear hb4 hv4 hh11)
        | fail)
      clear cb1 cb9
      go_wp2_with fail
      have hdl := heap_lt HDF.out
      have hou4 := HV.out.ou.below HB4.out
      rw [HMQ.out] at hou4
      have hd4 := (HB4.out.block D' hdl).trans HDF.out
      exact ⟨D' :: ds, isUd (fun U => ⟨#[U 0, U 1, .pointer (some ⟨E1, 0, none⟩), .pointer (some ⟨D, 0, none⟩), .pointer (some ⟨E2, 0, none⟩), .func (.func 73) #[] #[.pointer (some ⟨C, 0, none⟩)], .pointer (some ⟨E6, 0, none⟩), .pointer (some ⟨E7, 0, none⟩), .int .i64 (i + 1 : Nat), U 9, U 10, U 11, U 12, U 13, U 14, U 15, U 16, U 17, U 18, U 19, U 20, U 21, U 22, U 23, U 24, U 25, U 26, U 27, U 28, U 29, U 30, U 31, U 32, U 33, U 34, U 35, U 36, U 37, U 38, U 39, U 40, U 41, U 42, U 43, U 44, U 45, U 46, U 47, U 48, U 49, U 50, U 51, U 52, U 53, U 54, U 55, U 56, U 57, U 58, U 59, U 60, U 61, U 62, U 63, U 64, U 65, U 66, U 67, U 68, U 69, U 70, U 71, U 72, U 73, U 74, U 75, U 76, U 77, U 78, U 79, U 80, U 81, U 82, U 83, U 84], (D' :: ds).map mark⟩) rfl, List.nodup_cons.2 ⟨fun hm => by have := HV.out.dz D' hm; have := HDL.out; omega, HND.out⟩, fun j hj => (by
        rcases List.mem_cons.1 hj with rfl | hj
        · have h1 := HAV.out.ou.size; have := HDL.out; omega
        · exact HDS.out j hj), Wx, a7, (hou4.un).add hd4, HB7.out⟩
  · clear HOU HW4 HE67 H0 HB0 HEE
    rintro a X ⟨ds, hU, hnd, hds, W', v7, hou, hv7⟩
    obtain ⟨U, rfl⟩ := hU.out
    obtain ⟨q1, q2, q3, q4, q5, q6⟩ := HOU2.out
    have hrd := hou.hd
    rw [q2] at hrd
    have lD := heap_lt hrd
    have ck := hrd.cell (i := 0) (v := .int .i64 o.kind) rfl
    have cs := hrd.cell (i := 1) (v := .bool o.second) rfl
    have ca := hrd.cell (i := 2) (v := .int .i64 o.a) rfl
    have cb := hrd.cell (i := 3) (v := .int .i64 o.b) rfl
    have cv := hrd.cell (i := 4) (v := o.wv) rfl
    have cbv := hrd.cell (i := 5) (v := o.bv) rfl
    have cav := hrd.cell (i := 6) (v := o.av) rfl
    have cag := hrd.cell (i := 7) (v := .bool o.again) rfl
    have HOI := Lib.hid hou
    have HND := Lib.hid hnd
    have HDS := Lib.hid hds
    clear hU hou hv7 hnd hds hrd q1 q2 q3 q4 q5 q6
    go_upto_region 29 with (first
      | (go_at_call 79
         refine (HPS.out X).out.mono ?_
         rintro e X1 ⟨rfl, hbx⟩
         have HBX := Lib.hid hbx
         clear hbx)
      | fail)
    have hou1 := HOI.out.below HBX.out
    have hh2 := hou1.h2
    rw [HOU2.out.2.2.1] at hh2
    have c2 := hh2.cell (i := 0) rfl
    have f2 := hh2.frozen 0
    have HO1 := Lib.hid hou1
    have HH2 := Lib.hid hh2
    clear hou1 hh2 ck cs ca cb cv cbv cav cag
    go_wp2_with fail
    have hou1 := HO1.out
    have hm2 : Mod (fun k => k = E2) X1 (X1.setCell ⟨E2, 0, none⟩ (.bool true)) := Mod.setCell _ _ _ _ rfl
    have hr2 := HH2.out.set 0 (.bool true)
    have hdn : ∀ D ∈ ds, D ≠ E2 := fun D hD => df_ne (hou1.df D hD) HH2.out
    generalize X1.setCell ⟨E2, 0, none⟩ (.bool true) = X2 at *
    obtain ⟨k1, k2, k3, k4, k5, k6⟩ := hou1.ord
    have hE2 : w.heap.size ≤ E2 := by rw [← HOU2.out.2.2.1]; omega
    refine leaves_marks ds _ (fun D hD => (hm2.block D (heap_lt (hou1.df D hD)) (hdn D hD)).trans (hou1.df D hD)) HND.out fun Z hZ => ⟨_, results_cellb rfl rfl ((hr2.mod hZ (fun e => hdn _ e rfl)).cell (i := 0) rfl), rfl, W', ?_, ?_⟩
    · exact (hou1.pb.modHi hm2 fun k e => ⟨fun a => by have := HK.out k (.inl a); omega, fun a => by have := HK.out k (.inr a); omega⟩).modHi hZ fun k e => ⟨fun a => by have := HK.out k (.inl a); have := HDS.out k e; omega, fun a => by have := HK.out k (.inr a); have := HDS.out k e; omega⟩
    · exact (hou1.mod.on hm2 fun k e => .inr (by omega)).on hZ fun k e => .inr (HDS.out k e)
end Go.Proofs.YtckbckdaffdjmaaDoor

/- The statement BitmapRuns: the walk. (Turned from WkU by wip/w7gen/mkrunlaw.py.) -/
namespace Go.Proofs.YtckbckdaffdjmaaDoor
open Go.RowKit
set_option maxRecDepth 100000
set_option linter.unusedVariables false
set_option linter.unusedSimpArgs false

set_option maxHeartbeats 16000000 in
theorem lruns_calls {w : World} {sv : Value} {ops : List OpV} {f1 : Bool} {n1 : Int} {x1 : Value} {V1 : List UInt64} (hs : SlOp w sv ops) (hT : Tz w) (hn1 : (Lit.int .i64 n1).wf = true) (hx1 : RU w x1 V1) (hV1 : V1.length ≤ 17592186043904) :
    Pur Tryd.prog 12 #[.agg #[.bool f1, .int .i64 n1, x1], sv] w (.bool true) := by
  unfold Pur
  obtain ⟨w1, w0, A, b, hw1, hw0, hA, hb, hAb, hra, hrb, hb0⟩ := boxedMB w f1 n1 x1 false
  have hmade := made_calls (fr := f1) keepC_now (by omega) (Bok.new hrb) hn1 (hx1.below hb0) (by omega)
  have hat : At3 w w0 (fun k => k = b) := ⟨Mod.of_below hb0, fun k e => by omega⟩
  have HMD := Lib.hid hmade
  have HAT := Lib.hid hat
  have HS := Lib.hid hs
  have HT := Lib.hid hT
  obtain ⟨px1, cx1, e1⟩ := hx1.form
  obtain ⟨q, c, hse, hsl, -⟩ := hs
  generalize V1.length = L1 at e1
  obtain ⟨M, hM⟩ : ∃ M, M = ops.length := ⟨_, rfl⟩
  have HM := Lib.hid hM
  rw [← hM] at hse hsl
  subst e1 hse
  have ca0 := hra.cell (i := 0) rfl
  have ca1 := hra.cell (i := 1) rfl
  have ca2 := hra.cell (i := 2) rfl
  clear hM hx1 hV1 hmade hat hn1 hrb hb0 hAb hra hT
  go_enter Tryd.func12, Tryd.ntmps12
  go_upto_region 1 with fail
  rw [← hw1, ← hA]
  clear hw1 hA
  go_upto_region 2 with (first
    | (go_at_call 17
       rw [← hw0, ← hb]
       refine HMD.out.mono ?_
       rintro e w2 ⟨P, own2, rfl, hmd, hbk, hlow, hm⟩
       have HMP := Lib.hid hmd
       have HBK := Lib.hid hbk
       have HAT2 := Lib.hid (HAT.out.ask hlow hm)
       clear hmd hbk hlow hm hw0 hb ca0 ca1 ca2)
    | fail)
  obtain ⟨hP1, hP2, hP3⟩ := HMP.out
  rcases hP3 with hnil | ⟨p, bw, ba, r, bb, n, W, hpr, hno⟩
  · have cp0 := hnil.cell (i := 0) rfl
    clear hP1 hP2 hnil HMD hsl
    go_wp2_with fail
    go_ret
    exact ⟨rfl, HAT2.out.bel⟩
  · have hone : OneI w w2 P p bw ba r bb b n 2 own2 W := by
      refine ⟨⟨hpr, HBK.out, fun k hk => (hno k hk).2⟩, fun k e => ?_, HAT2.out.bel⟩
      rcases e with e | e
      · exact Nat.le_trans HAT.out.bel.size (hno k e).1
      · exact HAT2.out.own k e
    have cp0 := hpr.hP.cell (i := 0) rfl
    have H2 := Lib.hid hone
    clear hP1 hP2 hpr hno hone HMD HMP HBK HAT2 HAT
    go_wp2_with fail
    refine wp_loop_count (fun i a X => Is (fun U => ⟨#[U 0, .slice q M c, U 2, U 3, .bool false, .pointer (some ⟨P, 0, none⟩), U 6, .int .i64 i, U 8, U 9, U 10, U 11, U 12, U 13, U 14, U 15, U 16, U 17, U 18, U 19, U 20, U 21, U 22, U 23, U 24, U 25, U 26, U 27, U 28, U 29, U 30, U 31, U 32, U 33, U 34, U 35, U 36, U 37, U 38, U 39, U 40, U 41, U 42, U 43, U 44, U 45, U 46, U 47, U 48], []⟩) a ∧ ∃ own' W', OneI w X P p bw ba r bb b n (2 + 2 * i) own' W') M ⟨isU (fun U => ⟨#[U 0, .slice q M c, U 2, U 3, .bool false, .pointer (some ⟨P, 0, none⟩), U 6, .int .i64 0, U 8, U 9, U 10, U 11, U 12, U 13, U 14, U 15, U 16, U 17, U 18, U 19, U 20, U 21, U 22, U 23, U 24, U 25, U 26, U 27, U 28, U 29, U 30, U 31, U 32, U 33, U 34, U 35, U 36, U 37, U 38, U 39, U 40, U 41, U 42, U 43, U 44, U 45, U 46, U 47, U 48], []⟩) rfl, own2, W, H2.out⟩ ?_ ?_
    · clear H2 cp0
      rintro i a X hi ⟨hU, own', W', hone⟩
      obtain ⟨U, rfl⟩ := hU.out
      obtain ⟨q', c', e', -, hr⟩ := HS.out.below hone.bel
      simp only [Value.slice.injEq] at e'
      obtain ⟨rfl, -, rfl⟩ := e'
      obtain ⟨o, ho⟩ : ∃ o, ops[i]? = some o := ⟨_, List.getElem?_eq_getElem (by rw [← HM.out]; exact hi)⟩
      obtain ⟨g, off, rfl, hg, hoo, hrg⟩ := hr i o ho
      have hob : ∀ X, Below w.heap.size w X → Tz X ∧ OkOp X o := fun X h6 => by
        obtain ⟨q2, c2, e2, -, hr2⟩ := HS.out.below h6
        obtain ⟨_, _, _, _, ho2, _⟩ := hr2 i o ho
        exact ⟨HT.out.below h6, ho2⟩
      have hw0 : o.words ≠ [] → ∀ g0, o.wv.ownBlock = some g0 → g0 < w.heap.size := fun hne => (hob w (Below.refl _ _)).2.words.block hne
      obtain ⟨lb, hlb⟩ := (hob w (Below.refl _ _)).2.before
      obtain ⟨la, hla⟩ := (hob w (Below.refl _ _)).2.acts
      have hall := lawruns_calls hone.pb hoo (lb := lb) (la := la) (fun Y hY => by
        have h1 : Below w.heap.size w Y := hone.bel.trans (hY.below hone.bel.size fun k e => hone.hi k (.inl e))
        exact ⟨hlb.below h1, hla.below h1, hob Y h1⟩)
      have hstep := step_calls keepC_now (by omega) hone.pb (hob X hone.bel).1 hoo (fun hne g0 e0 e1 => by have h1 := hw0 hne g0 e0; have h2 := hone.hi g0 (.inl e1); omega)
      rw [show (opL o).toArray = #[.int .i64 o.kind, .bool o.second, .int .i64 o.a, .int .i64 o.b, o.wv, o.bv, o.av, .bool o.again] from rfl] at hall hstep
      have HALL := Lib.hid hall
      have HSTEP := Lib.hid hstep
      have HONE := Lib.hid hone
      have ck : X.cell? ⟨g, off + i * 8, none⟩ = some (.int .i64 o.kind) := hrg 0 _ rfl
      have cs : X.cell? ⟨g, off + i * 8 + 1, none⟩ = some (.bool o.second) := hrg 1 _ rfl
      have ca : X.cell? ⟨g, off + i * 8 + 2, none⟩ = some (.int .i64 o.a) := hrg 2 _ rfl
      have cb : X.cell? ⟨g, off + i * 8 + 3, none⟩ = some (.int .i64 o.b) := hrg 3 _ rfl
      have cv : X.cell? ⟨g, off + i * 8 + 4, none⟩ = some (o.wv) := hrg 4 _ rfl
      have cbv : X.cell? ⟨g, off + i * 8 + 5, none⟩ = some (o.bv) := hrg 5 _ rfl
      have cav : X.cell? ⟨g, off + i * 8 + 6, none⟩ = some (o.av) := hrg 6 _ rfl
      have cag : X.cell? ⟨g, off + i * 8 + 7, none⟩ = some (.bool o.again) := hrg 7 _ rfl
      have hiM : (i : Int) < (M : Int) := by exact_mod_cast hi
      have hi0 : (0 : Int) ≤ (i : Int) := Int.natCast_nonneg i
      have hM9 : (M : Int) ≤ 1256584717715 := by omega
      clear hU hr ho hob hw0 hlb hla hall hstep hone hoo hrg hsl
      cases z15 : (o.kind == 15)
      · go_wp2_with (first
          | (go_at_call 42
             refine HSTEP.out.mono ?_
             rintro e Y hch
             have he := hch.1
             subst he
             obtain ⟨own5, W5, h5⟩ := HONE.out.chg hch
             have H5 := Lib.hid h5
             clear hch h5)
          | fail)
        exact ⟨isU (fun U => ⟨#[U 0, .slice (some ⟨g, off, none⟩) M c, U 2, U 3, .bool false, .pointer (some ⟨P, 0, none⟩), U 6, .int .i64 (i + 1 : Nat), U 8, U 9, U 10, U 11, U 12, U 13, U 14, U 15, U 16, U 17, U 18, U 19, U 20, U 21, U 22, U 23, U 24, U 25, U 26, U 27, U 28, U 29, U 30, U 31, U 32, U 33, U 34, U 35, U 36, U 37, U 38, U 39, U 40, U 41, U 42, U 43, U 44, U 45, U 46, U 47, U 48], []⟩) rfl, own5, W5, H5.out⟩
      · go_wp2_with (first
          | (go_at_call 44
             refine HALL.out.mono ?_
             rintro e Y hch
             have he := hch.1
             subst he
             obtain ⟨W5, h5⟩ := HONE.out.chgQ hch
             have H5 := Lib.hid h5
             clear hch h5)
          | fail)
        exact ⟨isU (fun U => ⟨#[U 0, .slice (some ⟨g, off, none⟩) M c, U 2, U 3, .bool false, .pointer (some ⟨P, 0, none⟩), U 6, .int .i64 (i + 1 : Nat), U 8, U 9, U 10, U 11, U 12, U 13, U 14, U 15, U 16, U 17, U 18, U 19, U 20, U 21, U 22, U 23, U 24, U 25, U 26, U 27, U 28, U 29, U 30, U 31, U 32, U 33, U 34, U 35, U 36, U 37, U 38, U 39, U 40, U 41, U 42, U 43, U 44, U 45, U 46, U 47, U 48], []⟩) rfl, own', W5, H5.out⟩
    · clear H2 cp0
      rintro a X ⟨hU, own', W', hone⟩
      obtain ⟨U, rfl⟩ := hU.out
      have HONE := Lib.hid hone
      clear hU hone
      go_wp2_with fail
      go_ret
      exact ⟨rfl, HONE.out.bel⟩
end Go.Proofs.YtckbckdaffdjmaaDoor

/- The statement BitmapTwoLevels: the walk. -/
namespace Go.Proofs.YtckbckdaffdjmaaDoor
open Go.RowKit
set_option maxRecDepth 100000
set_option linter.unusedVariables false
set_option linter.unusedSimpArgs false

theorem shr_one {x r : Nat} (hx : x < 18446744073709551616) (h : x.testBit r = true) : (bits .and .u64 ((x : Int) / 2 ^ r) 1 != 1) = false := by
  have := shr_bit (r := r) hx
  rw [h] at this
  simp only [bne, this]; rfl
theorem shr_zero {x r : Nat} (hx : x < 18446744073709551616) (h : x.testBit r = false) : (bits .and .u64 ((x : Int) / 2 ^ r) 1 != 0) = false := by
  have h2 : x / 2 ^ r < 18446744073709551616 := Nat.lt_of_le_of_lt (Nat.div_le_self _ _) hx
  have h3 := u64_and_nat (x / 2 ^ r) 1 h2 (by decide)
  rw [Nat.and_one_is_mod] at h3
  rw [Nat.testBit_eq_decide_div_mod_eq] at h
  have h4 : x / 2 ^ r % 2 = 0 := by
    rcases Nat.mod_two_eq_zero_or_one (x / 2 ^ r) with e | e
    · exact e
    · rw [e] at h; cases h
  rw [h4] at h3
  rw [div_nat, show bits .and .u64 ((x / 2 ^ r : Nat) : Int) 1 = ((0 : Nat) : Int) from h3]; rfl
set_option maxHeartbeats 16000000 in
theorem twolevels_main {w : World} {n b f : Nat} {v sv : Value} {V : List UInt64} {ops : List OpV} (hok : Bm.Ok n V) (hv : RU w v V) (hs : SlOp w sv ops) (hT : Tz w) (hb : b < n) (hf : f < n) :
    Pur Tryd.prog 5 #[.int .i64 n, v, sv, .int .i64 b, .int .i64 f] w (.bool true) := by
  unfold Pur
  have hmx := hok.max
  have hpos := hok.pos
  have hli := lawlisted_calls (n := n) hv (wf_nat (by omega))
  rw [show Bm.listedB n V = true by unfold Bm.listedB; rw [decide_eq_true (by omega), Int.toNat_natCast, Bm.valid_of_ok hok]; rfl] at hli
  have HLI := Lib.hid hli
  have HOK := Lib.hid hok
  have HV := Lib.hid hv
  have HS := Lib.hid hs
  have HT := Lib.hid hT
  have HBN := Lib.hid hb
  have HFN := Lib.hid hf
  obtain ⟨vp, vc, hve⟩ := hv.form
  obtain ⟨sp, sc, hse, -, -⟩ := hs
  generalize V.length = VL at hve
  generalize ops.length = SL at hse
  subst hve hse
  have hn0 : (n : Int) ≤ 65536 := by omega
  have hb0 : (0 : Int) ≤ (b : Int) := Int.natCast_nonneg b
  have hf0 : (0 : Int) ≤ (f : Int) := Int.natCast_nonneg f
  have hb1 : (b : Int) < (n : Int) := by omega
  have hf1 : (f : Int) < (n : Int) := by omega
  clear hok hv hT hli hmx hpos hb hf
  go_enter Tryd.func5, Tryd.ntmps5
  go_upto_region 5 with (first
    | (go_at_call 26; refine HLI.out.out.mono ?_; clear HLI; rintro e w1 ⟨rfl, hbw⟩
       have hl := lawlay_calls HOK.out (HV.out.below hbw) (HS.out.below hbw)
       have HB1 := Lib.hid hbw
       have HL := Lib.hid hl
       clear hbw hl)
    | (go_at_call 27; refine HL.out.mono ?_; clear HL; rintro e w2 ⟨p, bw, ba, W1, rfl, hm, hp1, hp2, hp3, hbw⟩
       have HM2 := Lib.hid hm
       have HB2 : Hid (Below w.heap.size w w2) := Lib.hid (HB1.out.trans (hbw.mono HB1.out.size))
       have HP : Hid (∀ k, BM.At p bw ba k → w.heap.size ≤ k) := Lib.hid (by have := HB1.out.size; rintro k (rfl | rfl | rfl) <;> omega)
       clear hm hp1 hp2 hp3 hbw HB1)
    | fail)
  have hst := set_calls HM2.out HBN.out
  have HST := Lib.hid hst
  clear hst
  go_upto_region 8 with (first
    | (go_at_call 28; refine HST.out.mono ?_; clear HST; rintro e w3 ⟨rfl, hm, hmd⟩
       have HM3 := Lib.hid hm
       have HB3 : Hid (Below w.heap.size w w3) := Lib.hid (HB2.out.trans (hmd.below HB2.out.size HP.out))
       clear hm hmd)
    | fail)
  have hbit : Bm.bit (Bm.setW n W1 b (b + 1) true) b = true := by rw [Bm.setW_bit HM2.out.ok (by have := HBN.out; omega), if_pos (by omega)]
  obtain ⟨W2, hW2⟩ : ∃ W2, W2 = Bm.setW n W1 b (b + 1) true := ⟨_, rfl⟩
  rw [← hW2] at hbit HM3
  clear hW2
  have hte := test_calls HM3.out HBN.out
  rw [hbit] at hte
  have HTE := Lib.hid hte
  clear hte
  go_upto_region 9 with (first
    | (go_at_call 29; refine HTE.out.out.mono ?_; clear HTE; rintro e w4 ⟨rfl, hbw⟩
       have HM4 := Lib.hid (HM3.out.below hbw)
       have HB4 : Hid (Below w.heap.size w w4) := Lib.hid (HB3.out.trans (hbw.mono HB3.out.size))
       clear hbw)
    | fail)
  go_upto_region 10 with (first
    | (go_at_call 30; refine (levels_calls HM4.out).out.mono ?_; rintro e w5 ⟨rfl, hbw⟩
       have HM5 := Lib.hid (HM4.out.below hbw)
       have HB5 : Hid (Below w.heap.size w w5) := Lib.hid (HB4.out.trans (hbw.mono HB4.out.size))
       clear hbw)
    | fail)
  have hnx := next_calls HM5.out (HT.out.below HB5.out) (wf_nat (n := b) (by omega))
  rw [Int.toNat_natCast, ← (show Bm.IsFind (Bm.bit W2) n b (b : Int) from .inr ⟨b, rfl, Nat.le_refl _, HBN.out, hbit, fun t h1 h2 => by omega⟩).eq] at hnx
  have HNX := Lib.hid hnx
  clear hnx
  go_upto_region 11 with (first
    | (go_at_call 31; refine HNX.out.out.mono ?_; clear HNX; rintro e w6 ⟨rfl, hbw⟩
       have HM6 := Lib.hid (HM5.out.below hbw)
       have HB6 : Hid (Below w.heap.size w w6) := Lib.hid (HB5.out.trans (hbw.mono HB5.out.size))
       clear hbw)
    | fail)
  have HLN : Hid (W2.length = Bm.room n) := Lib.hid HM6.out.ok.len
  obtain ⟨x, hx⟩ : ∃ x, W2[b / 64]? = some x := ⟨_, List.getElem?_eq_getElem (by have := Bm.room_lt HBN.out; rw [HLN.out]; exact this)⟩
  have hxb : x.toNat.testBit (b % 64) = true := by rw [← hbit, Bm.bit, List.getD_eq_getElem?_getD, hx]; rfl
  have hx1 := shr_one x.toNat_lt hxb
  have hrl := HM6.out.room_le.1
  obtain ⟨R, hR⟩ : ∃ R, R = Bm.room n := ⟨_, rfl⟩
  have hq : b / 64 < R := by rw [hR]; exact Bm.room_lt HBN.out
  rw [← hR] at HLN hrl
  have hq0 : 0 ≤ (b : Int) / 64 := by omega
  have hq1 : (b : Int) / 64 < (R : Int) := by omega
  have hq2 : ((b : Int) / 64).toNat = b / 64 := by omega
  have HX := Lib.hid hx
  clear hx hxb hR hq hrl
  go_upto_region 12 with (first
    | (go_at_call 32; refine (words_calls HM6.out).mono ?_; rintro e w7 ⟨v7, rfl, g, hv7, hrw, hgs, hbw⟩
       rw [HLN.out] at hv7
       subst hv7
       have cx := hrw.cell (i := b / 64) (v := uv x) (by simp [HX.out])
       have HM7 := Lib.hid (HM6.out.below hbw)
       have HB7 : Hid (Below w.heap.size w w7) := Lib.hid (HB6.out.trans (hbw.mono HB6.out.size))
       have lg := heap_lt hrw
       clear hrw hgs hbw)
    | fail)
  have HBIT := Lib.hid hbit
  clear hbit
  go_upto_region 14 with (first
    | (go_at_call 33; refine (num_calls _).out.mono ?_; rintro e w8 ⟨rfl, hbw⟩
       have cx8 := ((bcell hbw).1 _ _ lg).trans cx
       have HM8 := Lib.hid (HM7.out.below hbw)
       have HB8 : Hid (Below w.heap.size w w8) := Lib.hid (HB7.out.trans (hbw.mono HB7.out.size))
       clear hbw)
    | fail)
  have hcl := clear_calls HM8.out HBN.out
  rw [HBIT.out] at hcl
  have HCL := Lib.hid hcl
  clear hcl cx cx8 hx1 HX lg
  go_upto_region 15 with (first
    | (go_at_call 34; refine HCL.out.mono ?_; clear HCL; rintro e w9 ⟨rfl, hm, hmd⟩
       have HM9 := Lib.hid hm
       have HB9 : Hid (Below w.heap.size w w9) := Lib.hid (HB8.out.trans (hmd.below HB8.out.size HP.out))
       clear hm hmd)
    | fail)
  have hbit3 : Bm.bit (Bm.setW n W2 b (b + 1) false) b = false := by rw [Bm.setW_bit HM8.out.ok (by have := HBN.out; omega), if_pos (by omega)]
  obtain ⟨W3, hW3⟩ : ∃ W3, W3 = Bm.setW n W2 b (b + 1) false := ⟨_, rfl⟩
  rw [← hW3] at hbit3 HM9
  clear hW3
  have hte := test_calls HM9.out HBN.out
  rw [hbit3] at hte
  have HTE := Lib.hid hte
  clear hte
  go_upto_region 16 with (first
    | (go_at_call 29; refine HTE.out.out.mono ?_; clear HTE; rintro e w10 ⟨rfl, hbw⟩
       have HM10 := Lib.hid (HM9.out.below hbw)
       have HB10 : Hid (Below w.heap.size w w10) := Lib.hid (HB9.out.trans (hbw.mono HB9.out.size))
       clear hbw)
    | fail)
  go_upto_region 17 with (first
    | (go_at_call 30; refine (levels_calls HM10.out).out.mono ?_; rintro e w11 ⟨rfl, hbw⟩
       have HM11 := Lib.hid (HM10.out.below hbw)
       have HB11 : Hid (Below w.heap.size w w11) := Lib.hid (HB10.out.trans (hbw.mono HB10.out.size))
       clear hbw)
    | fail)
  have hnc := nextclear_calls HM11.out (HT.out.below HB11.out) (wf_nat (n := b) (by omega))
  rw [Int.toNat_natCast, ← (show Bm.IsFind (fun t => !Bm.bit W3 t) n b (b : Int) from .inr ⟨b, rfl, Nat.le_refl _, HBN.out, by show (!Bm.bit W3 b) = true; rw [hbit3]; rfl, fun t h1 h2 => by omega⟩).eq] at hnc
  have HNC := Lib.hid hnc
  clear hnc
  go_upto_region 18 with (first
    | (go_at_call 35; refine HNC.out.out.mono ?_; clear HNC; rintro e w12 ⟨rfl, hbw⟩
       have HM12 := Lib.hid (HM11.out.below hbw)
       have HB12 : Hid (Below w.heap.size w w12) := Lib.hid (HB11.out.trans (hbw.mono HB11.out.size))
       clear hbw)
    | fail)
  have HLN3 : Hid (W3.length = R) := Lib.hid (by rw [HM12.out.ok.len, ← HM8.out.ok.len]; exact HLN.out)
  obtain ⟨y, hy⟩ : ∃ y, W3[b / 64]? = some y := ⟨_, List.getElem?_eq_getElem (by rw [HLN3.out]; omega)⟩
  have hyb : y.toNat.testBit (b % 64) = false := by rw [← hbit3, Bm.bit, List.getD_eq_getElem?_getD, hy]; rfl
  have hy1 := shr_zero y.toNat_lt hyb
  have HY := Lib.hid hy
  clear hy hyb hbit3
  go_upto_region 19 with (first
    | (go_at_call 32; refine (words_calls HM12.out).mono ?_; rintro e w13 ⟨v13, rfl, g2, hv13, hrw, hgs, hbw⟩
       rw [HLN3.out] at hv13
       subst hv13
       have cy := hrw.cell (i := b / 64) (v := uv y) (by simp [HY.out])
       have HM13 := Lib.hid (HM12.out.below hbw)
       have HB13 : Hid (Below w.heap.size w w13) := Lib.hid (HB12.out.trans (hbw.mono HB12.out.size))
       have lg2 := heap_lt hrw
       clear hrw hgs hbw)
    | fail)
  have hnum := fun (w : World) (e : Int) => num_calls (w := w) e
  have HNa := Lib.hid hnum
  have HNb := Lib.hid hnum
  clear hnum
  go_upto_region 21 with (first
    | (go_at_call 33; refine (HNa.out w13 _).out.mono ?_; clear HNa; rintro e w14 ⟨rfl, hbw⟩
       have cy14 := ((bcell hbw).1 _ _ lg2).trans cy
       have lg14 := Nat.lt_of_lt_of_le lg2 hbw.size
       have HM14 := Lib.hid (HM13.out.below hbw)
       have HB14 : Hid (Below w.heap.size w w14) := Lib.hid (HB13.out.trans (hbw.mono HB13.out.size))
       clear hbw cy lg2)
    | (go_at_call 33; refine (HNb.out w14 _).out.mono ?_; clear HNb; rintro e w15 ⟨rfl, hbw⟩
       have cy15 := ((bcell hbw).1 _ _ lg14).trans cy14
       have HM15 := Lib.hid (HM14.out.below hbw)
       have HB15 : Hid (Below w.heap.size w w15) := Lib.hid (HB14.out.trans (hbw.mono HB14.out.size))
       clear hbw cy14 lg14)
    | fail)
  clear cy15 hy1 HY
  have hen := ends_calls HM15.out (HT.out.below HB15.out) HFN.out
  have HEN := Lib.hid hen
  clear hen
  go_wp2_with (first
    | (go_at_call 36; refine HEN.out.out.mono ?_; rintro e w16 ⟨rfl, hbw⟩)
    | fail)
  go_ret
  exact ⟨rfl, HB15.out.trans (hbw.mono HB15.out.size)⟩
end Go.Proofs.YtckbckdaffdjmaaDoor

/- The statement BitmapTwoLevels: every input. -/
namespace Go.Proofs.YtckbckdaffdjmaaDoor
open Go.RowKit
set_option maxRecDepth 100000
set_option linter.unusedVariables false
set_option linter.unusedSimpArgs false

set_option maxHeartbeats 8000000 in
theorem twolevels_calls {w : World} {n b f : Int} {v sv : Value} {V : List UInt64} {ops : List OpV} (hn : (Lit.int .i64 n).wf = true) (hv : RU w v V) (hs : SlOp w sv ops) (hT : Tz w) :
    Pur Tryd.prog 5 #[.int .i64 n, v, sv, .int .i64 b, .int .i64 f] w (.bool true) := by
  by_cases hl : Bm.listedB n V = true
  · have hl2 := hl
    unfold Bm.listedB at hl2
    simp only [Bool.and_eq_true, decide_eq_true_eq, beq_iff_eq] at hl2
    obtain ⟨m, rfl⟩ : ∃ m : Nat, n = m := ⟨n.toNat, by omega⟩
    rw [Int.toNat_natCast] at hl2
    have hok := Bm.ok_of_valid (by omega) (by omega) hl2.2
    by_cases h1 : 0 ≤ b ∧ b < m ∧ 0 ≤ f ∧ f < m
    · obtain ⟨b, rfl⟩ : ∃ k : Nat, b = k := ⟨b.toNat, by omega⟩
      obtain ⟨f, rfl⟩ : ∃ k : Nat, f = k := ⟨f.toNat, by omega⟩
      exact twolevels_main hok hv hs hT (by omega) (by omega)
    · unfold Pur
      have hli := lawlisted_calls hv hn
      rw [hl] at hli
      have HLI := Lib.hid hli
      obtain ⟨vp, vc, hve⟩ := hv.form
      generalize V.length = VL at hve
      subst hve
      clear hv hs hT hli hl hl2 hok hn
      go_enter Tryd.func5, Tryd.ntmps5
      by_cases e1 : b < 0
      · clear h1
        go_wp2_with (first | (go_at_call 26; refine HLI.out.out.mono ?_; rintro e w1 ⟨rfl, hbw⟩) | fail)
        go_ret
        exact ⟨rfl, hbw⟩
      · by_cases e2 : (m : Int) ≤ b
        · clear h1
          go_wp2_with (first | (go_at_call 26; refine HLI.out.out.mono ?_; rintro e w1 ⟨rfl, hbw⟩) | fail)
          go_ret
          exact ⟨rfl, hbw⟩
        · have e2' : b < (m : Int) := by omega
          have e1' : 0 ≤ b := by omega
          by_cases e3 : f < 0
          · clear h1
            go_wp2_with (first | (go_at_call 26; refine HLI.out.out.mono ?_; rintro e w1 ⟨rfl, hbw⟩) | fail)
            go_ret
            exact ⟨rfl, hbw⟩
          · have e4 : (m : Int) ≤ f := by omega
            have e3' : 0 ≤ f := by omega
            clear h1
            go_wp2_with (first | (go_at_call 26; refine HLI.out.out.mono ?_; rintro e w1 ⟨rfl, hbw⟩) | fail)
            go_ret
            exact ⟨rfl, hbw⟩
  · have hl' : Bm.listedB n V = false := by simpa using hl
    unfold Pur
    have hli := lawlisted_calls hv hn
    rw [hl'] at hli
    have HLI := Lib.hid hli
    obtain ⟨vp, vc, hve⟩ := hv.form
    generalize V.length = VL at hve
    subst hve
    clear hv hs hT hli hl hl' hn
    go_enter Tryd.func5, Tryd.ntmps5
    go_wp2_with (first | (go_at_call 26; refine HLI.out.out.mono ?_; rintro e w1 ⟨rfl, hbw⟩) | fail)
    go_ret
    exact ⟨rfl, hbw⟩
end Go.Proofs.YtckbckdaffdjmaaDoor

/- The statement BitmapRunsTile: the walk. -/
namespace Go.Proofs.YtckbckdaffdjmaaDoor
open Go.RowKit
attribute [local go_sem] Oper.semAt_some
set_option maxRecDepth 100000
set_option linter.unusedVariables false
set_option linter.unusedSimpArgs false

structure TiN where
  b3 : Nat
  b6 : Nat
  b8 : Nat
  b10 : Nat
  b11 : Nat
  c : Nat
/-- Where the tiling stands. -/
structure TiI (w X : World) (m : TiN) (p bw ba n Z : Nat) (W : List UInt64) (s : List UInt64 × Nat) : Prop where
  eq : s.1 = W
  bm : BM X p bw ba n W
  bel : Below w.heap.size w X
  hlt : ∀ k, (k = p ∨ k = bw ∨ k = ba ∨ k = m.b3 ∨ k = m.b6 ∨ k = m.b8 ∨ k = m.b10 ∨ k = m.b11 ∨ k = m.c) → w.heap.size ≤ k ∧ k < Z
  ne : m.b10 ≠ m.b11 ∧ (∀ k, (k = p ∨ k = bw ∨ k = ba ∨ k = m.b3 ∨ k = m.b6 ∨ k = m.b8 ∨ k = m.c) → k ≠ m.b10 ∧ k ≠ m.b11)
  h3 : Rw X m.b3 3 [.int .i64 (n : Nat)]
  h6 : Rw X m.b6 4 [.bool false]
  h8 : Rw X m.b8 32 [.pointer (some ⟨p, 0, none⟩)]
  h10 : Rw X m.b10 3 [.int .i64 (s.2 : Nat)]
  h11 : Rw X m.b11 3 [.int .i64 (Bm.cnt (Bm.bit W) 0 s.2 : Nat)]
  hc : Rw X m.c 32 [.pointer (some ⟨p, 0, none⟩)]
  le : s.2 ≤ n
  nb : 0 < s.2 → s.2 < n → Bm.bit W s.2 = false
  sz : Z ≤ X.heap.size
section
variable {w X Y : World} {m : TiN} {p bw ba n Z : Nat} {W : List UInt64} {s : List UInt64 × Nat} {F : Nat → Prop}
theorem TiI.step (h : TiI w X m p bw ba n Z W s) (hm : Mod F X Y) (hF : ∀ k, F k → Z ≤ k) : TiI w Y m p bw ba n Z W s := by
  have hn : ∀ k, (k = p ∨ k = bw ∨ k = ba ∨ k = m.b3 ∨ k = m.b6 ∨ k = m.b8 ∨ k = m.b10 ∨ k = m.b11 ∨ k = m.c) → ¬ F k := fun k e f => by have := (h.hlt k e).2; have := hF k f; omega
  have hz : w.heap.size ≤ Z := by have := h.hlt p (.inl rfl); omega
  exact ⟨h.eq, h.bm.mod hm (hn _ (.inl rfl)) (hn _ (.inr (.inl rfl))) (hn _ (.inr (.inr (.inl rfl)))), h.bel.trans (hm.below h.bel.size fun k e => Nat.le_trans hz (hF k e)), h.hlt, h.ne, h.h3.mod hm (hn _ (by simp)), h.h6.mod hm (hn _ (by simp)), h.h8.mod hm (hn _ (by simp)), h.h10.mod hm (hn _ (by simp)), h.h11.mod hm (hn _ (by simp)), h.hc.mod hm (hn _ (by simp)), h.le, h.nb, Nat.le_trans h.sz hm.size⟩
theorem TiI.below (h : TiI w X m p bw ba n Z W s) (hb : Below X.heap.size X Y) : TiI w Y m p bw ba n Z W s := h.step (F := fun _ => False) (Mod.of_below hb) fun _ e => e.elim
/-- Behind a round. -/
theorem TiI.next {f c : Nat} (h : TiI w X m p bw ba n Z W s) (hf : s.2 ≤ f) (hcn : f + c ≤ n) (hg : Bm.cnt (Bm.bit W) s.2 (f - s.2) = 0) (hfull : Bm.cnt (Bm.bit W) f c = c) (hend : f + c < n → Bm.bit W (f + c) = false) :
    TiI w ((X.setCell ⟨m.b11, 0, none⟩ (.int .i64 ((Bm.cnt (Bm.bit W) 0 s.2 : Nat) + (c : Nat) : Int))).setCell ⟨m.b10, 0, none⟩ (.int .i64 ((f : Int) + (c : Int)))) m p bw ba n Z W (W, f + c) := by
  obtain ⟨n1, n2⟩ := h.ne
  have hm1 : Mod (fun k => k = m.b11) X (X.setCell ⟨m.b11, 0, none⟩ (.int .i64 ((Bm.cnt (Bm.bit W) 0 s.2 : Nat) + (c : Nat) : Int))) := Mod.setCell _ _ _ _ rfl
  have r11 := h.h11.set 0 (.int .i64 ((Bm.cnt (Bm.bit W) 0 s.2 : Nat) + (c : Nat) : Int))
  have r10 := h.h10.mod hm1 n1
  generalize X.setCell ⟨m.b11, 0, none⟩ (.int .i64 ((Bm.cnt (Bm.bit W) 0 s.2 : Nat) + (c : Nat) : Int)) = X1 at *
  have hm2 : Mod (fun k => k = m.b10) X1 (X1.setCell ⟨m.b10, 0, none⟩ (.int .i64 ((f : Int) + (c : Int)))) := Mod.setCell _ _ _ _ rfl
  have q10 := r10.set 0 (.int .i64 ((f : Int) + (c : Int)))
  have q11 := r11.mod hm2 (Ne.symm n1)
  generalize X1.setCell ⟨m.b10, 0, none⟩ (.int .i64 ((f : Int) + (c : Int))) = X2 at *
  have hm : Mod (fun k => k = m.b10 ∨ k = m.b11) X X2 := (hm1.mono fun _ _ e => .inr e).trans (hm2.mono fun _ _ e => .inl e)
  have hn : ∀ k, (k = p ∨ k = bw ∨ k = ba ∨ k = m.b3 ∨ k = m.b6 ∨ k = m.b8 ∨ k = m.c) → ¬ (k = m.b10 ∨ k = m.b11) := fun k e f => f.elim (n2 k e).1 (n2 k e).2
  have hcc : Bm.cnt (Bm.bit W) 0 (f + c) = Bm.cnt (Bm.bit W) 0 s.2 + c := by
    have h1 := Bm.cnt_add (Bm.bit W) 0 s.2 (f - s.2)
    rw [Nat.zero_add, show s.2 + (f - s.2) = f by omega, hg] at h1
    rw [Bm.cnt_add, Nat.zero_add, hfull, h1]; rfl
  refine ⟨rfl, h.bm.mod hm (hn _ (.inl rfl)) (hn _ (.inr (.inl rfl))) (hn _ (.inr (.inr (.inl rfl)))), h.bel.trans (hm.below h.bel.size fun k e => ?_), h.hlt, h.ne, h.h3.mod hm (hn _ (by simp)), h.h6.mod hm (hn _ (by simp)), h.h8.mod hm (hn _ (by simp)), ?_, ?_, h.hc.mod hm (hn _ (by simp)), hcn, fun _ e => hend e, Nat.le_trans h.sz hm.size⟩
  · rcases e with e | e
    · exact (h.hlt k (by simp [e])).1
    · exact (h.hlt k (by simp [e])).1
  · show Rw X2 m.b10 _ [.int .i64 ((f + c : Nat) : Int)]
    rw [show ((f + c : Nat) : Int) = (f : Int) + (c : Int) by omega]; exact q10
  · show Rw X2 m.b11 _ [.int .i64 (Bm.cnt (Bm.bit W) 0 (f + c) : Nat)]
    rw [hcc, show ((Bm.cnt (Bm.bit W) 0 s.2 + c : Nat) : Int) = (Bm.cnt (Bm.bit W) 0 s.2 : Nat) + (c : Nat) by omega]; exact q11
end
end Go.Proofs.YtckbckdaffdjmaaDoor
