/- The Book: a list as it was handed out. (Printed by wip/w7gen/mkbk.py.) -/
import Derived.Test.YtbgfoobcpacfeaaDoorPk8
import Derived.Test.YtbgfoobcpacfeaaDoorBkWrite
import Derived.Test.YtbgfoobcpacfeaaDoorBkHolds
namespace Go.Proofs.YtbgfoobcpacfeaaDoor
open Go.RowKit
set_option maxRecDepth 100000
set_option linter.unusedVariables false
set_option linter.unusedSimpArgs false
/-- What 'keep' and its callers hold of a Book: the fresh lists Lf, the kept ones Lk. -/
def BkS (w : World) (r B : Nat) (own : Nat → Nat) (Lf Lk : List (List UInt8)) : Prop := ∃ v V m, Bk w r B own v V m ∧ Freshly own B w (V 0) Lf ∧ Settled own w (V 1) Lf ∧ Settled own w (V 2) Lk ∧ Settled own w (V 3) Lk ∧ Lf.length ≤ 1
/-- The tags of what 'keep' changes. -/
def SKeep (p : Nat) (t : Nat) : Bool := (decide (1 ≤ t) && decide (t < 9)) || t == p
/-- Where 'keep' leaves the world. -/
def KpPost (W : World) (r B : Nat) (own : Nat → Nat) (n p : Nat) (w' : World) : Prop := ∃ own' Lf' Lk', BkS w' r B own' Lf' Lk' ∧ Lk'.length ≤ n + 4 ∧ Chg own (SKeep p) W w' ∧ ∀ k, k < W.heap.size → SKeep p (own k) = false → own' k = own k
/-- Behind i of the two writes. -/
def KpI (W : World) (r B p n : Nat) (vb f0 lv : Value) (l0 l : List UInt8) (own : Nat → Nat) (i : Nat) (a : Act) (w' : World) : Prop :=
  ∃ own' v' V' m' Lk', (∃ U : Nat → Value, a = ⟨#[.pointer (some ⟨r, 0, none⟩), U 1, U 2, U 3, vb, .int .i64 i, U 6, U 7, U 8, U 9, U 10, U 11, U 12, U 13, U 14, U 15, U 16, U 17, U 18, U 19, U 20, U 21, U 22, U 23, U 24, U 25, U 26, U 27, U 28, U 29, U 30, U 31, U 32, U 33, U 34, U 35, U 36, U 37, U 38, U 39, U 40, U 41, U 42, U 43, U 44, U 45, U 46, U 47, U 48, U 49, U 50, U 51, U 52, U 53, U 54, U 55, U 56, U 57], []⟩) ∧ Bk w' r B own' v' V' m' ∧ V' 0 = [] ∧ V' 1 = [] ∧ Settled own' w' (V' 2) Lk' ∧ Settled own' w' (V' 3) Lk' ∧ Lk'.length = n + 2 * i ∧ VR B w' vb [f0, lv] ∧ (∀ k, vb.ownBlock = some k → own' k = 2) ∧
    (i = 0 → OB B w' f0 l0 ∧ ∀ k, f0.ownBlock = some k → own' k = 6) ∧ (i ≤ 1 → OB B w' lv l ∧ ∀ k, lv.ownBlock = some k → own' k = p) ∧ Chg own (SKeep p) W w' ∧ ∀ k, k < W.heap.size → SKeep p (own k) = false → own' k = own k

set_option maxHeartbeats 8000000 in
theorem bkeep_calls {W : World} {r B : Nat} {ownA : Nat → Nat} {Lf Lk : List (List UInt8)} (hS : BkS W r B ownA Lf Lk) (hBW : B ≤ W.heap.size) {lv : Value} {l : List UInt8} (hl : OB B W lv l) (hll : l.length ≤ 1099511627776) {p : Nat} (hp : 20 ≤ p) (hpt : ∀ k, lv.ownBlock = some k → ownA k = p) (hlen : Lk.length + 8 ≤ 4294967296) :
    Calls Tryd.prog 36 #[.pointer (some ⟨r, 0, none⟩), lv] W fun e w' => e = .returned (.tuple #[]) ∧ KpPost W r B ownA Lk.length p w' := by
  obtain ⟨vS0, VS0, m, h, hF, hW, hK, hT, hLf⟩ := hS
  obtain ⟨ownS0, hoS⟩ : ∃ x, x = ownA := ⟨_, rfl⟩
  rw [← hoS] at h hF hW hK hT hpt
  have hBw : B ≤ W.heap.size := hBW
  have hWw : W.heap.size ≤ W.heap.size := Nat.le_refl _
  have hCW : Chg ownS0 (SKeep p) W W := Chg.refl _ _ _
  have hown : ∀ k, k < W.heap.size → ownS0 k = ownA k := fun k _ => by rw [hoS]
  have hst : ∀ k, k < W.heap.size → ownS0 k = ownA k := hown
  obtain ⟨F0, E0⟩ : ∃ x, VS0 0 = x := ⟨_, rfl⟩
  obtain ⟨W0, E1⟩ : ∃ x, VS0 1 = x := ⟨_, rfl⟩
  obtain ⟨K0, E2⟩ : ∃ x, VS0 2 = x := ⟨_, rfl⟩
  obtain ⟨T0, E3⟩ : ∃ x, VS0 3 = x := ⟨_, rfl⟩
  rw [E0] at hF
  rw [E1] at hW
  rw [E2] at hK
  rw [E3] at hT
  have hF1 := hF.1
  have hW1 := hW.1
  have hlen0 : (VS0 0).length + 1 ≤ 4294967296 := by rw [E0]; omega
  have hlen1 : (VS0 1).length + 1 ≤ 4294967296 := by rw [E1]; omega
  have hlv : Lp ownS0 W lv l p := Lp.of_ob hl hpt
  have hlf : ∃ p n c, lv = .slice p n c := by obtain ⟨p, c, e⟩ := hl.rb.form; exact ⟨p, _, c, e⟩
  have hp4 : ∀ j, j < 4 → ((p == 1) || (p == 2 + j)) = false := fun j hj => by simp; omega
  have h94 : ∀ j, j < 4 → (((9 : Nat) == 1) || ((9 : Nat) == 2 + j)) = false := fun j hj => by simp; omega
  have h69 : ∀ j, j < 4 → ∀ t, 6 ≤ t → t < 9 → ((t == 1) || (t == 2 + j)) = false := fun j hj t h1 h2 => by simp; omega
  have hsub : ∀ j, j < 4 → ∀ t, SKeep p t = false → ((t == 1) || (t == 2 + j)) = false := fun j hj t h => by
    simp only [SKeep, Bool.or_eq_false_iff, Bool.and_eq_false_iff, decide_eq_false_iff_not, beq_eq_false_iff_ne] at h ⊢
    omega
  go_enter Tryd.func36, Tryd.ntmps36
  clear hoS hpt
  go_upto_region 0 with fail
  rename_i hnext
  have hlv0 := hlv
  refine wp_region_lit ?_
  refine Og.st_start (n := 58) rfl fun a hF => ?_
  refine Og.st_same (.pointer (some ⟨r, 0, none⟩)) hF rfl rfl (by decide) (by kernel_rfl) ?_
  clear hF a; intro a hF
  refine Og.st_same (.pointer (some ⟨r, 0, none⟩)) hF rfl rfl (by decide) (by kernel_rfl) ?_
  clear hF a; intro a hF
  refine Og.st_same (.pointer (some ⟨r, 0, none⟩)) hF rfl rfl (by decide) (by kernel_rfl) ?_
  clear hF a; intro a hF
  refine Og.st_same (.pointer (some ⟨r, 0, none⟩)) hF rfl rfl (by decide) (by kernel_rfl) ?_
  clear hF a; intro a hF
  refine Og.st_same (vS0 0) hF rfl rfl (by decide) (Og.exec_load rfl (h.ld (j := 0) (by decide))) ?_
  clear hF a; intro a hF
  refine Og.st_same (lv) hF rfl rfl (by decide) (by kernel_rfl) ?_
  clear hF a; intro a hF
  refine Og.st_val (w' := W.alloc (.cells #[lv] 32)) (.slice (some ⟨W.heap.size, 0, none⟩) 1 1) hF rfl rfl (by decide) (build_one' (u := lv) rfl (by kernel_rfl) hlf W) ?_
  clear hF a; intro a hF
  have hba := below_alloc1 W (.cells #[lv] 32)
  have hxc : (W.alloc (.cells #[lv] 32)).cell? ⟨W.heap.size, 0, none⟩ = some (lv) := cell_one _ _ _
  have hra : VR B (W.alloc (.cells #[lv] 32)) (vS0 0) (VS0 0) := (h.row 0 (by decide)).at_ fun k e => hba.block k ((h.row 0 (by decide)).lt k e).2
  have hx1 : Value.oneCell' (lv) = true := by obtain ⟨p, q, c0, e⟩ := hlf; rw [e]; rfl
  generalize W.alloc (.cells #[lv] 32) = wA at *
  obtain ⟨u, w1, hrun, hu, hg, hat⟩ := hra.append hxc hx1 hlen0 (Nat.le_trans hBw hba.size)
  have hk := h.kept (j := 0) (by decide) hba hg
  refine Og.st_val (w' := w1) u hF rfl rfl (by decide) (Og.exec_append rfl hrun) ?_
  clear hF a; intro a hF
  refine Og.st_same (.pointer (some ⟨r, 0, none⟩)) hF rfl rfl (by decide) (by kernel_rfl) ?_
  clear hF a; intro a hF
  refine Og.st_same (.pointer (some ⟨r, 0, none⟩)) hF rfl rfl (by decide) (by kernel_rfl) ?_
  clear hF a; intro a hF
  refine Og.st_skip (w' := w1.setCells r 0 [u]) hF rfl rfl
    (exec_store (o := 0) (vs := [u]) (cs := [vS0 0, vS0 1, vS0 2, vS0 3, .int .i64 m]) rfl rfl hu.cells1 hk (by show 0 + 1 ≤ 5; decide) lsz (slice_one _ hu.one)) ?_
  clear hF a; intro a hF
  obtain ⟨hPu, hCu⟩ := h.push (j := 0) (by decide) 9 hba hg hu hat
  generalize w1.setCells r 0 [u] = wS1 at *
  refine wpList_nil ?_
  obtain ⟨U, rfl⟩ := Og.Fr.lit_ex hF (fun U => ⟨#[.pointer (some ⟨r, 0, none⟩), lv, U 2, U 3, U 4, U 5, U 6, U 7, U 8, U 9, U 10, U 11, U 12, U 13, U 14, U 15, U 16, U 17, U 18, U 19, U 20, U 21, U 22, U 23, U 24, U 25, U 26, U 27, U 28, U 29, U 30, U 31, U 32, U 33, U 34, U 35, U 36, U 37, U 38, U 39, U 40, U 41, U 42, U 43, U 44, U 45, U 46, U 47, U 48, U 49, U 50, U 51, U 52, U 53, U 54, U 55, U 56, U 57], []⟩) (by kernel_rfl)
  clear hF hba hxc hra hx1 hrun hu hg hat hk wA w1
  refine hnext _ _ ?_
  clear hnext
  have hold : ∀ k, k < W.heap.size → ownP ownS0 W.heap.size u 0 9 k = ownS0 k := fun k hk => ownP_old hk
  replace hlv := hlv.step hCu (hp4 0 (by decide)) hold
  replace hl := hl.chg hCu (fun k e => by rw [show ownS0 k = p from (hlv0.2 k e).2]; exact hp4 0 (by decide))
  replace hF := hF.step hCu (h69 0 (by decide)) (by omega) (fun k hk _ _ => hold k hk)
  replace hW := hW.step hCu (h94 0 (by decide)) hold
  replace hK := hK.step hCu (h94 0 (by decide)) hold
  replace hT := hT.step hCu (h94 0 (by decide)) hold
  have hCu' : Chg ownS0 (SKeep p) W wS1 := hCu.mono (hsub 0 (by decide))
  replace hCW := hCW.trans hCu' (fun k hk h => by rw [show ownS0 k = ownA k from hown k hk]; rw [← hst k hk]; exact h)
  replace hown : ∀ k, k < W.heap.size → ownP ownS0 W.heap.size u 0 9 k = ownA k := fun k hk => (hold k (by omega)).trans (hown k hk)
  replace hBw : B ≤ wS1.heap.size := Nat.le_trans hBw hCu.size
  replace hWw : W.heap.size ≤ wS1.heap.size := Nat.le_trans hWw hCu.size
  obtain ⟨vS1, hvk⟩ : ∃ x : Nat → Value, x = fup vS0 0 u := ⟨_, rfl⟩
  obtain ⟨VS1, hVk⟩ : ∃ x : Nat → List Value, x = fup VS0 0 (VS0 0 ++ [lv]) := ⟨_, rfl⟩
  rw [← hvk, ← hVk] at hPu
  replace E0 : VS1 0 = F0 ++ [lv] := by rw [hVk, fup_at, E0]
  replace E1 : VS1 1 = W0 := by rw [hVk, fup_ne _ _ (by decide), E1]
  replace E2 : VS1 2 = K0 := by rw [hVk, fup_ne _ _ (by decide), E2]
  replace E3 : VS1 3 = T0 := by rw [hVk, fup_ne _ _ (by decide), E3]
  replace hlen1 : (VS1 1).length + 1 ≤ 4294967296 := by rw [E1]; simp; omega
  generalize ownP ownS0 W.heap.size u 0 9 = ownS1 at *
  replace h := hPu
  clear hPu hvk hVk hCu hCu' hold u hlv0
  go_upto_region 1 with fail
  rename_i hnext
  have hlv0 := hlv
  obtain ⟨G, hG⟩ : ∃ G, G = wS1.heap.size := ⟨_, rfl⟩
  have hrG : r < G := by rw [hG]; exact h.lt
  have hjG : ∀ k, (vS1 1).ownBlock = some k → k < G := fun k e => by rw [hG]; exact ((h.row 1 (by decide)).lt k e).2
  have hjr : ∀ k, (vS1 1).ownBlock = some k → k ≠ r := fun k e => h.ne (by decide) e
  have hBG : B ≤ G := by rw [hG]; exact hBw
  refine Og.wp_region_og _ (fun i => i == 11)
    (Og.Vt [.pointer (some ⟨r, 0, none⟩), .pointer (some ⟨r, 0, none⟩), .pointer (some ⟨r, 0, none⟩), .pointer (some ⟨r, 1, none⟩), vS1 1, lv, undef, undef, undef, .pointer (some ⟨r, 0, none⟩), .pointer (some ⟨r, 1, none⟩), undef] [(6, fun u w' => OB G w' u (l)), (7, fun u w' => ∃ ad c1, u = .slice (some ⟨ad, 0, none⟩) 1 1 ∧ G ≤ ad ∧ ad < w'.heap.size ∧ w'.cell? ⟨ad, 0, none⟩ = some c1 ∧ OB G w' c1 (l)), (8, fun u w' => ∃ c1, VR B w' u (VS1 1 ++ [c1]) ∧ OB G w' c1 (l) ∧ (u.ownBlock = (vS1 1).ownBlock ∨ ∀ k, u.ownBlock = some k → G ≤ k ∧ c1.ownBlock ≠ some k)), (11, fun _ w' => ∃ u c1, w'.heap[r]? = some (.cells (setAll [vS1 0, vS1 1, vS1 2, vS1 3, .int .i64 m] 1 [u]).toArray 65 (0, 0)) ∧ VR B w' u (VS1 1 ++ [c1]) ∧ OB G w' c1 (l) ∧ (u.ownBlock = (vS1 1).ownBlock ∨ ∀ k, u.ownBlock = some k → G ≤ k ∧ c1.ownBlock ≠ some k))])
    (fun w' => Chg ownS1 (fun t => t == 1 || t == 2 + 1) wS1 w')
    (fun i w' => (i = 4 ∨ i = 11 → w'.heap[r]? = some (.cells [vS1 0, vS1 1, vS1 2, vS1 3, .int .i64 m].toArray 65 (0, 0))) ∧ (i = 8 → VR B w' (vS1 1) (VS1 1))) 58 rfl (by kernel_rfl) (by kernel_rfl) (Chg.below (Below.drew (Below.refl _ _))) (fun _ _ => ⟨fun _ => h.blk, fun _ => (h.row 1 (by decide)).at_ fun _ _ => rfl⟩) (Og.allOps ⟨?_, ?_, ?_, ?_, ?_, ?_, ?_, ?_, ?_, ?_, ?_, ?_, trivial⟩) ?_
  · refine Og.ok_val _ rfl rfl fun φ w2 hA => ?_
    have e1 : φ 0 = .pointer (some ⟨r, 0, none⟩) := hA.old 0 (by kernel_rfl)
    simp only [execOp, Og.ev, e1]
    go_simp
  · refine Og.ok_val _ rfl rfl fun φ w2 hA => ?_
    have e1 : φ 0 = .pointer (some ⟨r, 0, none⟩) := hA.old 0 (by kernel_rfl)
    simp only [execOp, Og.ev, e1]
    go_simp
  · refine Og.ok_val _ rfl rfl fun φ w2 hA => ?_
    have e1 : φ 17 = .pointer (some ⟨r, 0, none⟩) := hA.of 1 (d := 17) (by simp) rfl rfl
    simp only [execOp, Og.ev, e1]
    go_simp
  · refine Og.ok_val _ rfl rfl fun φ w2 hA => ?_
    have e1 : φ 18 = .pointer (some ⟨r, 0, none⟩) := hA.of 2 (d := 18) (by simp) rfl rfl
    simp only [execOp, Og.ev, e1]
    go_simp
  · refine Og.ok_val _ rfl rfl fun φ w2 hA => ?_
    have e1 : φ 19 = .pointer (some ⟨r, 1, none⟩) := hA.of 3 (d := 19) (by simp) rfl rfl
    refine Og.exec_load rfl ?_
    simp only [Og.ev, e1]
    exact h.ld' (j := 1) (by decide) (hA.tok.1 (.inl rfl))
  · refine Og.ok_val _ rfl rfl fun φ w2 hA => ?_
    have e1 : φ 1 = lv := hA.old 1 (by kernel_rfl)
    simp only [execOp, Og.ev, e1]
    go_simp
  · refine Og.ok_gcall_fn _ _ _ _ ?_ ?_ ?_ rfl rfl fun φ w2 hA => ?_
    · intro y hy u' w3 w4 hu' hbb
      simp only [List.mem_cons, List.not_mem_nil, or_false] at hy
      rcases hy with rfl | rfl | rfl | rfl
      · exact hu'.below hbb
      · obtain ⟨ad, c1, e, h1, h2, h3, h4⟩ := hu'; exact ⟨ad, c1, e, h1, Nat.lt_of_lt_of_le h2 hbb.size, ((bcell hbb).1 ad 0 h2).trans h3, h4.below hbb⟩
      · obtain ⟨c1, h1, h2, h3⟩ := hu'; exact ⟨c1, h1.at_ fun k e => hbb.block k (h1.lt k e).2, h2.below hbb, h3⟩
      · obtain ⟨u1, c1, h0, h1, h2, h3⟩ := hu'; exact ⟨u1, c1, blk_below h0 hbb, h1.at_ fun k e => hbb.block k (h1.lt k e).2, h2.below hbb, h3⟩
    · exact fun w3 w4 hR hbb => hR.trans (Chg.below hbb) (fun _ _ h => h)
    · exact fun i w3 w4 hT hbb => ⟨fun e => blk_below (hT.1 e) hbb, fun e => (hT.2 e).at_ fun k ek => hbb.block k ((hT.2 e).lt k ek).2⟩
    · have e1 : φ 21 = lv := hA.of 5 (d := 21) (by simp) rfl rfl
      refine ⟨_, #[lv], copied_enter', rfl, by simp [Og.ev, e1], (copied_calls (hlv.1.chg hA.keep (fun k e => by have := (fun k e => by have := (hlv.2 k e).2; omega : ∀ k, lv.ownBlock = some k → ownS1 k ≠ 1 ∧ ownS1 k ≠ 2 + 1) k e; simp only [Bool.or_eq_false_iff, beq_eq_false_iff_ne]; omega))).mono ?_⟩
      rintro e w3 ⟨u', rfl, ho, hb3⟩
      exact ⟨u', rfl, ho.more (by rw [hG]; exact hA.keep.size), hb3⟩
  · refine Og.ok_wval _ rfl fun φ w2 hA => ?_
    have hob : OB G w2 (φ 22) (l) := hA.of 6 (d := 22) (by simp) rfl rfl
    have hbb := below_alloc1 w2 (.cells #[φ 22] 32)
    have hf : ∃ p q c1, φ 22 = .slice p q c1 := by obtain ⟨p, c1, e⟩ := hob.rb.form; exact ⟨p, _, c1, e⟩
    refine ⟨.slice (some ⟨w2.heap.size, 0, none⟩) 1 1, w2.alloc (.cells #[φ 22] 32), build_one' (u := φ 22) rfl rfl hf w2, hA.keep.trans (Chg.below hbb) (fun _ _ h => h), ⟨w2.heap.size, φ 22, rfl, by rw [hG]; exact hA.keep.size, by simp, cell_one _ _ _, hob.below hbb⟩, fun i hi hT => ⟨fun e => blk_below (hT.1 e) hbb, fun e => (hT.2 e).at_ fun k ek => hbb.block k ((hT.2 e).lt k ek).2⟩, fun y hy hn u' hu' => ?_⟩
    simp only [List.mem_cons, List.not_mem_nil, or_false] at hy
    rcases hy with rfl | rfl | rfl | rfl
    · exact hu'.below hbb
    · obtain ⟨ad, c1, e, h1, h2, h3, h4⟩ := hu'; exact ⟨ad, c1, e, h1, Nat.lt_of_lt_of_le h2 hbb.size, ((bcell hbb).1 ad 0 h2).trans h3, h4.below hbb⟩
    · obtain ⟨c1, h1, h2, h3⟩ := hu'; exact ⟨c1, h1.at_ fun k e => hbb.block k (h1.lt k e).2, h2.below hbb, h3⟩
    · obtain ⟨u1, c1, h0, h1, h2, h3⟩ := hu'; exact ⟨u1, c1, blk_below h0 hbb, h1.at_ fun k e => hbb.block k (h1.lt k e).2, h2.below hbb, h3⟩
  · refine Og.ok_wval _ rfl fun φ w2 hA => ?_
    obtain ⟨ad, c1, e7, had, hadl, hcc, hoc⟩ := hA.of 7 (d := 23) (by simp) rfl rfl
    have e4 : φ 20 = vS1 1 := hA.of 4 (d := 20) (by simp) rfl rfl
    have hvr : VR B w2 (vS1 1) (VS1 1) := hA.tok.2 rfl
    have hG2 : G ≤ w2.heap.size := by rw [hG]; exact hA.keep.size
    have hc1 : c1.oneCell' = true := by obtain ⟨p, q, e⟩ := hoc.rb.form; rw [e]; rfl
    obtain ⟨u, w3, hrun, hu, hg, hat⟩ := hvr.append hcc hc1 hlen1 (Nat.le_trans hBG hG2)
    have hCg : Chg ownS1 (fun t => t == 1 || t == 2 + 1) w2 w3 := Chg.of hg fun k e _ => by rw [h.tags 1 (by decide) k e]; decide
    refine ⟨u, w3, ?_, hA.keep.trans hCg (fun _ _ h => h), ⟨c1, hu, hoc.kept hg (fun k e e' => by have := (hoc.lt k e).1; have := hjG k e'; omega), hat.imp id (fun e k ek => by rw [e] at ek; injection ek with ek; exact ⟨by omega, fun ec => by have := (hoc.lt k ec).2; omega⟩)⟩, fun i hi hT => ⟨fun e => (hg.block r (by omega) (fun e' => hjr r e'.symm rfl)).trans (hT.1 e), fun e => absurd (e ▸ hi) (Bool.eq_false_iff.1 (by kernel_rfl))⟩, fun y hy hn u' hu' => ?_⟩
    · exact Og.exec_append rfl (by simp only [Og.ev]; rw [e4, e7]; exact hrun)
    · simp only [List.mem_cons, List.not_mem_nil, or_false] at hy
      rcases hy with rfl | rfl | rfl | rfl
      · exact hu'.kept hg (fun k e e' => by have := (hu'.lt k e).1; have := hjG k e'; omega)
      · obtain ⟨ad', c', e', h1, h2, h3, h4⟩ := hu'
        exact ⟨ad', c', e', h1, Nat.lt_of_lt_of_le h2 hg.size, (World.cell?_of_block (hg.block ad' h2 (fun e => by have := hjG ad' e.symm; omega))).trans h3, h4.kept hg (fun k e e' => by have := (h4.lt k e).1; have := hjG k e'; omega)⟩
      · exact absurd hn (Bool.eq_false_iff.1 (by kernel_rfl))
      · exact absurd hn (Bool.eq_false_iff.1 (by kernel_rfl))
  · refine Og.ok_val _ rfl rfl fun φ w2 hA => ?_
    have e1 : φ 16 = .pointer (some ⟨r, 0, none⟩) := hA.of 0 (d := 16) (by simp) rfl rfl
    simp only [execOp, Og.ev, e1]
    go_simp
  · refine Og.ok_val _ rfl rfl fun φ w2 hA => ?_
    have e1 : φ 25 = .pointer (some ⟨r, 0, none⟩) := hA.of 9 (d := 25) (by simp) rfl rfl
    simp only [execOp, Og.ev, e1]
    go_simp
  · refine Og.ok_wskip _ rfl fun φ w2 hA => ?_
    obtain ⟨c1, hu, hoc, hat⟩ := hA.of 8 (d := 24) (by simp) rfl rfl
    have e10 : φ 26 = .pointer (some ⟨r, 1, none⟩) := hA.of 10 (d := 26) (by simp) rfl rfl
    have hblk := hA.tok.1 (.inr rfl)
    have hG2 : G ≤ w2.heap.size := by rw [hG]; exact hA.keep.size
    have hgs := setCells_grown w2 r 1 [φ 24]
    have hur : ∀ k, (φ 24).ownBlock = some k → k ≠ r := fun k e => by
      rcases hat with a | a
      · exact hjr k (a ▸ e)
      · have := a k e; omega
    refine ⟨w2.setCells r 1 [φ 24], exec_store (o := 1) (vs := [φ 24]) (cs := [vS1 0, vS1 1, vS1 2, vS1 3, .int .i64 m]) rfl (by simp only [Og.ev]; exact e10) (by simp only [Og.ev]; exact hu.cells1) hblk (by show 1 + 1 ≤ 5; decide) lsz (slice_one _ hu.one), hA.keep.trans (Chg.of hgs fun k e _ => by injection e with e; subst e; rw [h.tag]; rfl) (fun _ _ h => h), ⟨φ 24, c1, setCells_heap [φ 24] 1 w2 _ hblk, hu.grown hgs (fun k e e' => hur k e (by injection e' with e'; exact e'.symm)), hoc.kept hgs (fun k e e' => by have := (hoc.lt k e).1; injection e'; omega), hat⟩, fun i hi hT => ⟨fun e => by rcases e with e | e <;> exact absurd (e ▸ hi) (Bool.eq_false_iff.1 (by kernel_rfl)), fun e => absurd (e ▸ hi) (Bool.eq_false_iff.1 (by kernel_rfl))⟩, fun y hy hn u' hu' => ?_⟩
    simp only [List.mem_cons, List.not_mem_nil, or_false] at hy
    rcases hy with rfl | rfl | rfl | rfl
    · exact hu'.kept hgs (fun k e e' => by have := (hu'.lt k e).1; injection e'; omega)
    · obtain ⟨ad', c', e', h1, h2, h3, h4⟩ := hu'
      exact ⟨ad', c', e', h1, Nat.lt_of_lt_of_le h2 hgs.size, (World.cell?_of_block (hgs.block ad' h2 (fun e => by injection e; omega))).trans h3, h4.kept hgs (fun k e e' => by have := (h4.lt k e).1; injection e'; omega)⟩
    · exact absurd hn (Bool.eq_false_iff.1 (by kernel_rfl))
    · exact absurd hn (Bool.eq_false_iff.1 (by kernel_rfl))
  intro φ a wS2 hF hCu h0 hV hN
  obtain ⟨_, u, c1, hblk, hu, hoc, hat⟩ := hN 11 _ rfl rfl rfl
  have e0 : φ 0 = .pointer (some ⟨r, 0, none⟩) := h0 0 (by kernel_rfl)
  have e1 : φ 1 = lv := h0 1 (by kernel_rfl)
  have ea : ∃ U : Nat → Value, a = ⟨#[.pointer (some ⟨r, 0, none⟩), lv, U 2, U 3, U 4, U 5, U 6, U 7, U 8, U 9, U 10, U 11, U 12, U 13, U 14, U 15, U 16, U 17, U 18, U 19, U 20, U 21, U 22, U 23, U 24, U 25, U 26, U 27, U 28, U 29, U 30, U 31, U 32, U 33, U 34, U 35, U 36, U 37, U 38, U 39, U 40, U 41, U 42, U 43, U 44, U 45, U 46, U 47, U 48, U 49, U 50, U 51, U 52, U 53, U 54, U 55, U 56, U 57], []⟩ := ⟨φ, by
    rw [hF.lit_eq, show ((List.range 58).map φ).toArray = #[φ 0, φ 1, φ 2, φ 3, φ 4, φ 5, φ 6, φ 7, φ 8, φ 9, φ 10, φ 11, φ 12, φ 13, φ 14, φ 15, φ 16, φ 17, φ 18, φ 19, φ 20, φ 21, φ 22, φ 23, φ 24, φ 25, φ 26, φ 27, φ 28, φ 29, φ 30, φ 31, φ 32, φ 33, φ 34, φ 35, φ 36, φ 37, φ 38, φ 39, φ 40, φ 41, φ 42, φ 43, φ 44, φ 45, φ 46, φ 47, φ 48, φ 49, φ 50, φ 51, φ 52, φ 53, φ 54, φ 55, φ 56, φ 57] by kernel_rfl, e0, e1]⟩
  obtain ⟨U, rfl⟩ := ea
  clear hF h0 hV hN e0 e1
  have hPu := h.pushed (j := 1) (by decide) 9 hCu hblk hu (hat.imp id (fun e k ek => by rw [← hG]; exact (e k ek).1))
  have hut : ∀ k, c1.ownBlock = some k → k < wS2.heap.size ∧ ownP ownS1 wS1.heap.size u 1 9 k = 9 := fun k e => by
    have hk := hoc.lt k e
    refine ⟨hk.2, ownP_oth (by rw [← hG]; exact hk.1) (fun e' => ?_)⟩
    rcases hat with a | a
    · have := hjG k (a ▸ e'); omega
    · exact (a k e').2 e
  clear hblk hu hat hjG hjr hrG hBG
  refine hnext _ _ ?_
  clear hnext
  have hold : ∀ k, k < wS1.heap.size → ownP ownS1 wS1.heap.size u 1 9 k = ownS1 k := fun k hk => ownP_old hk
  replace hlv := hlv.step hCu (hp4 1 (by decide)) hold
  replace hl := hl.chg hCu (fun k e => by rw [show ownS1 k = p from (hlv0.2 k e).2]; exact hp4 1 (by decide))
  replace hF := hF.step hCu (h69 1 (by decide)) (by omega) (fun k hk _ _ => hold k hk)
  replace hW := hW.step hCu (h94 1 (by decide)) hold
  replace hK := hK.step hCu (h94 1 (by decide)) hold
  replace hT := hT.step hCu (h94 1 (by decide)) hold
  have hCu' : Chg ownS1 (SKeep p) wS1 wS2 := hCu.mono (hsub 1 (by decide))
  replace hCW := hCW.trans hCu' (fun k hk h => by rw [show ownS1 k = ownA k from hown k hk]; rw [← hst k hk]; exact h)
  replace hown : ∀ k, k < W.heap.size → ownP ownS1 wS1.heap.size u 1 9 k = ownA k := fun k hk => (hold k (by omega)).trans (hown k hk)
  replace hBw : B ≤ wS2.heap.size := Nat.le_trans hBw hCu.size
  replace hWw : W.heap.size ≤ wS2.heap.size := Nat.le_trans hWw hCu.size
  obtain ⟨vS2, hvk⟩ : ∃ x : Nat → Value, x = fup vS1 1 u := ⟨_, rfl⟩
  obtain ⟨VS2, hVk⟩ : ∃ x : Nat → List Value, x = fup VS1 1 (VS1 1 ++ [c1]) := ⟨_, rfl⟩
  rw [← hvk, ← hVk] at hPu
  replace E0 : VS2 0 = F0 ++ [lv] := by rw [hVk, fup_ne _ _ (by decide), E0]
  replace E1 : VS2 1 = W0 ++ [c1] := by rw [hVk, fup_at, E1]
  replace E2 : VS2 2 = K0 := by rw [hVk, fup_ne _ _ (by decide), E2]
  replace E3 : VS2 3 = T0 := by rw [hVk, fup_ne _ _ (by decide), E3]
  replace hlen1 : (VS2 1).length + 1 ≤ 4294967296 := by rw [E1]; simp; omega
  have hc1 : Lp (ownP ownS1 wS1.heap.size u 1 9) wS2 c1 l 9 := ⟨hoc.rb, hut⟩
  clear hoc hut hG G
  generalize ownP ownS1 wS1.heap.size u 1 9 = ownS2 at *
  replace h := hPu
  clear hPu hvk hVk hCu hCu' hold u hlv0
  have hFl : (VS2 0).length = Lf.length + 1 := by rw [E0]; simp [hF1]
  have hne0 : ∀ k, k < W.heap.size → SKeep p (ownA k) = false → ownS2 k = ownA k := fun k hk _ => hown k hk
  cases Lf with
  | nil =>
    have hF0 : F0 = [] := List.eq_nil_of_length_eq_zero hF1
    have hc0 := h.cell 0 _ rfl
    obtain ⟨pf, cf, ef⟩ := (h.row 0 (by decide)).form
    rw [hFl] at ef
    rw [ef] at hc0
    have hrl := h.lt
    have Hh := Lib.hid h
    have Hhl := Lib.hid hl
    clear h hl ef
    go_wp2_with fail
    refine bodyPost_ret (results_none rfl _ _ _) rfl ?_
    have h := Hh.out
    have hl := Hhl.out
    refine ⟨rfl, fun k => if ownS2 k = p then 6 else ownS2 k, [l], Lk, ⟨vS2, VS2, m, h.retag' (fun k _ h6 => if_neg (by omega)), ?_, ?_, ?_, ?_, Nat.le_refl _⟩, by omega, hCW.owner (fun k hk => (hst k hk).symm), fun k hk h => ?_⟩
    · rw [E0, hF0]
      exact Freshly.nil_.push hl hll (fun k e => by simp only [(hlv.2 k e).2]; simp)
    · rw [E1, List.eq_nil_of_length_eq_zero hW1]
      exact Settled.nil_.push hc1.1 (fun k e => ⟨(hc1.2 k e).1, by simp only [(hc1.2 k e).2]; exact if_neg (by omega)⟩)
    · rw [E2]; exact hK.retag (fun k _ h9 => by simp only [h9]; exact if_neg (by omega))
    · rw [E3]; exact hT.retag (fun k _ h9 => by simp only [h9]; exact if_neg (by omega))
    · have := hown k hk
      simp only [this]
      refine if_neg (fun e => ?_)
      rw [e] at h
      simp [SKeep] at h
  | cons l0 Lr =>
    have hLr : Lr = [] := List.eq_nil_of_length_eq_zero (by simpa using hLf)
    subst hLr
    obtain ⟨f0, hF0⟩ : ∃ f, F0 = [f] := by
      match F0, hF1 with
      | [f], _ => exact ⟨f, rfl⟩
    subst hF0
    have hfr : Freshly (fun k => if ownS2 k = p then 7 else ownS2 k) B wS2 (VS2 0) ([l0] ++ [l]) := by
      rw [E0]
      refine Freshly.push ?_ hl hll (fun k e => by simp only [(hlv.2 k e).2]; simp)
      exact hF.step (S := fun _ => false) (Chg.refl _ _ _) (fun _ _ _ => rfl) (by simp) (fun k _ h6 h9 => if_neg (by omega))
    have hwr : Settled ownS2 wS2 (VS2 1) ([l0] ++ [l]) := by
      rw [E1]
      exact hW.push hc1.1 hc1.2
    have hlvt : ∀ k, lv.ownBlock = some k → ownS2 k = p := fun k e => (hlv.2 k e).2
    have hA01 : Alike wS2 (VS2 0) (VS2 1) := Alike.of_fresh hfr hwr
    have hA23 : Alike wS2 (VS2 2) (VS2 3) := by rw [E2, E3]; exact Alike.of_settled hK hT
    have hc0 := h.cell 0 _ rfl
    obtain ⟨pf, cf, ef⟩ := (h.row 0 (by decide)).form
    rw [hFl] at ef
    rw [ef] at hc0
    have hrl := h.lt
    have Hh := Lib.hid h
    have Hhl := Lib.hid hl
    clear h hl
    go_wp2_with fail
    refine (bholds_calls Hh.out hA01 hA23).out.mono ?_
    rintro e w3 ⟨rfl, hb3⟩
    have hC3 : Chg ownS2 (fun _ => false) wS2 w3 := Chg.below hb3
    have h3 := Hh.out.chg hC3 (fun _ _ _ => rfl)
    have hc0 := h3.cell 0 _ rfl
    have hc1' := h3.cell 1 _ rfl
    rw [ef] at hc0
    have hrl := h3.lt
    have hfz0 : w3.frozen? ⟨r, 0, none⟩ = false := by simp [World.frozen?, h3.blk]
    have hfz1 : w3.frozen? ⟨r, 1, none⟩ = false := by simp [World.frozen?, h3.blk]
    have H3 := Lib.hid h3
    obtain ⟨vw, hvw⟩ : ∃ x, x = vS2 1 := ⟨_, rfl⟩
    rw [← hvw] at hc1'
    clear h3 hb3
    go_wp2_with fail
    show Code.wp _ _ _ _ ((w3.setCells r 0 [.slice none 0 0]).setCells r 1 [.slice none 0 0])
    have h3 := H3.out
    obtain ⟨h4, hC4⟩ := h3.clear (j := 0) (by decide)
    obtain ⟨h5, hC5⟩ := h4.clear (j := 1) (by decide)
    have hvb3 : VR B w3 (vS2 0) [f0, lv] := by have := h3.row 0 (by decide); rw [E0] at this; exact this
    have hvbr : ∀ k, (vS2 0).ownBlock = some k → (some r : Option Nat) ≠ some k := fun k e e' => h3.ne (by decide) e (by injection e' with e'; exact e'.symm)
    have hvb5 := (hvb3.grown (setCells_grown w3 r 0 [.slice none 0 0]) hvbr).grown (setCells_grown _ r 1 [.slice none 0 0]) hvbr
    have hvbt := h3.tags 0 (by decide)
    have hC35 : Chg ownS2 (fun t => t == 1) wS2 ((w3.setCells r 0 [.slice none 0 0]).setCells r 1 [.slice none 0 0]) := ((hC3.mono (fun _ _ => rfl)).trans hC4 (fun _ _ h => h)).trans hC5 (fun _ _ h => h)
    have ef2 : vS2 0 = .slice pf 2 cf := ef
    rw [← ef2]
    generalize (w3.setCells r 0 [.slice none 0 0]).setCells r 1 [.slice none 0 0] = w5 at *
    generalize vS2 0 = vb at *
    obtain ⟨hof, hlf0, htf⟩ := hF.2 0 f0 l0 rfl rfl
    have hof5 : OB B w5 f0 l0 := hof.chg hC35 (fun k e => by rw [htf k e]; rfl)
    have hl5 : OB B w5 lv l := Hhl.out.chg hC35 (fun k e => by rw [(hlv.2 k e).2]; simp; omega)
    have hKT : Settled ownS2 w5 K0 Lk ∧ Settled ownS2 w5 T0 Lk := ⟨hK.step hC35 rfl (fun _ _ => rfl), hT.step hC35 rfl (fun _ _ => rfl)⟩
    have hCW5 : Chg ownA (SKeep p) W w5 := (hCW.owner (fun k hk => (hst k hk).symm)).trans (hC35.mono (fun t h => by simp only [SKeep, Bool.or_eq_false_iff, Bool.and_eq_false_iff, decide_eq_false_iff_not, beq_eq_false_iff_ne] at h ⊢; omega)) (fun k hk h => by rw [show ownS2 k = ownA k from hown k hk]; exact h)
    clear hc0 hc1' hrl hfz0 hfz1 hvw
    clear hC3 H3 h3 h4 hC4 hC5 hvb3 hvbr hC35 hK hT hof Hh hF hW hc1 hfr hwr hA01 hA23 hlv hCW w3 hst ef ef2
    refine wp_loop_count (KpI W r B p Lk.length vb f0 lv l0 l ownA) 2 ⟨ownS2, _, _, _, Lk, exU (fun U => ⟨#[.pointer (some ⟨r, 0, none⟩), U 1, U 2, U 3, vb, .int .i64 0, U 6, U 7, U 8, U 9, U 10, U 11, U 12, U 13, U 14, U 15, U 16, U 17, U 18, U 19, U 20, U 21, U 22, U 23, U 24, U 25, U 26, U 27, U 28, U 29, U 30, U 31, U 32, U 33, U 34, U 35, U 36, U 37, U 38, U 39, U 40, U 41, U 42, U 43, U 44, U 45, U 46, U 47, U 48, U 49, U 50, U 51, U 52, U 53, U 54, U 55, U 56, U 57], []⟩) rfl, h5, rfl, rfl, ?_, ?_, rfl, hvb5, hvbt, fun _ => ⟨hof5, htf⟩, fun _ => ⟨hl5, hlvt⟩, hCW5, hne0⟩ ?_ ?_
    · show Settled ownS2 w5 (VS2 2) Lk
      rw [E2]; exact hKT.1
    · show Settled ownS2 w5 (VS2 3) Lk
      rw [E3]; exact hKT.2
    · clear hvb5 hof5 hl5 hKT hCW5 h5 hvbt htf hne0 hown
      rintro i a w hi ⟨own, v, V, m, Lk', ⟨U, rfl⟩, h, ev0, ev1, hK, hT, hLk, hvb, hvt, hf, hl, hC, hag⟩
      rcases (show i = 0 ∨ i = 1 by omega) with rfl | rfl
      · skip
        obtain ⟨hOf, htf⟩ := hf rfl
        obtain ⟨g, cap, e, hg, hc⟩ := hvb.get (i := 0) (u := f0) rfl
        obtain ⟨pf, cf, ef⟩ := hOf.rb.form
        rw [ef] at hc
        have hBs : B ≤ w.heap.size := by have := hC.size; omega
        have hcall := bwrite_calls h hBs hOf (by omega) (p := 6) (by omega) (by omega) htf hK hT (by omega)
        rw [ef] at hcall
        have e' : vb = .slice (some ⟨g, 0, none⟩) 2 cap := e
        rw [e']
        generalize l0.length = ln at *
        have Hc := Lib.hid hcall
        clear hcall
        go_wp2_with fail
        refine Hc.out.mono ?_
        rintro e w6 ⟨rfl, own6, v6, V6, m6, L6, h6, a1, a2, a3, a4, hK6, hT6, hL6, hC6, ho6⟩
        go_wp2_with fail
        have hvl := hvb.lt
        rw [← e']
        refine ⟨own6, v6, V6, m6, L6, exU (fun U => ⟨#[.pointer (some ⟨r, 0, none⟩), U 1, U 2, U 3, vb, .int .i64 (1 : Nat), U 6, U 7, U 8, U 9, U 10, U 11, U 12, U 13, U 14, U 15, U 16, U 17, U 18, U 19, U 20, U 21, U 22, U 23, U 24, U 25, U 26, U 27, U 28, U 29, U 30, U 31, U 32, U 33, U 34, U 35, U 36, U 37, U 38, U 39, U 40, U 41, U 42, U 43, U 44, U 45, U 46, U 47, U 48, U 49, U 50, U 51, U 52, U 53, U 54, U 55, U 56, U 57], []⟩) rfl, h6, a3.trans ev0, a4.trans ev1, hK6, hT6, by omega, hvb.chg hC6 (fun k e => by rw [hvt k e]; first | (simp; done) | (simp; omega)), fun k e => by rw [ho6 k (hvl k e).2, hvt k e, if_neg (by omega)], fun h => absurd h (by decide), fun hle => ?_, hC.trans (hC6.mono (fun t h => by simp only [SKeep, Bool.or_eq_false_iff, Bool.and_eq_false_iff, decide_eq_false_iff_not, beq_eq_false_iff_ne] at h ⊢; omega)) (fun k hk h => by rw [hag k hk h]; exact h), fun k hk hs => ?_⟩
        · obtain ⟨hol, htl⟩ := hl (by decide)
          exact ⟨hol.chg hC6 (fun k e => by rw [htl k e]; first | (simp; done) | (simp; omega)), fun k e => by rw [ho6 k (hol.lt k e).2, htl k e, if_neg (by omega)]⟩
        · have h1 := hag k hk hs
          rw [ho6 k (Nat.lt_of_lt_of_le hk hC.size), h1, if_neg]
          intro e6
          rw [e6] at hs
          simp [SKeep] at hs
      · skip
        obtain ⟨hOf, htf⟩ := hl (by decide)
        obtain ⟨g, cap, e, hg, hc⟩ := hvb.get (i := 1) (u := lv) rfl
        obtain ⟨pf, cf, ef⟩ := hOf.rb.form
        rw [ef] at hc
        have hBs : B ≤ w.heap.size := by have := hC.size; omega
        have hcall := bwrite_calls h hBs hOf (by omega) (p := p) (by omega) (by omega) htf hK hT (by omega)
        rw [ef] at hcall
        have e' : vb = .slice (some ⟨g, 0, none⟩) 2 cap := e
        rw [e']
        generalize l.length = ln at *
        have Hc := Lib.hid hcall
        clear hcall
        go_wp2_with fail
        refine Hc.out.mono ?_
        rintro e w6 ⟨rfl, own6, v6, V6, m6, L6, h6, a1, a2, a3, a4, hK6, hT6, hL6, hC6, ho6⟩
        go_wp2_with fail
        have hvl := hvb.lt
        rw [← e']
        refine ⟨own6, v6, V6, m6, L6, exU (fun U => ⟨#[.pointer (some ⟨r, 0, none⟩), U 1, U 2, U 3, vb, .int .i64 (2 : Nat), U 6, U 7, U 8, U 9, U 10, U 11, U 12, U 13, U 14, U 15, U 16, U 17, U 18, U 19, U 20, U 21, U 22, U 23, U 24, U 25, U 26, U 27, U 28, U 29, U 30, U 31, U 32, U 33, U 34, U 35, U 36, U 37, U 38, U 39, U 40, U 41, U 42, U 43, U 44, U 45, U 46, U 47, U 48, U 49, U 50, U 51, U 52, U 53, U 54, U 55, U 56, U 57], []⟩) rfl, h6, a3.trans ev0, a4.trans ev1, hK6, hT6, by omega, hvb.chg hC6 (fun k e => by rw [hvt k e]; first | (simp; done) | (simp; omega)), fun k e => by rw [ho6 k (hvl k e).2, hvt k e, if_neg (by omega)], fun h => absurd h (by decide), fun hle => ?_, hC.trans (hC6.mono (fun t h => by simp only [SKeep, Bool.or_eq_false_iff, Bool.and_eq_false_iff, decide_eq_false_iff_not, beq_eq_false_iff_ne] at h ⊢; omega)) (fun k hk h => by rw [hag k hk h]; exact h), fun k hk hs => ?_⟩
        · exact absurd hle (by decide)
        · have h1 := hag k hk hs
          rw [ho6 k (Nat.lt_of_lt_of_le hk hC.size), h1, if_neg]
          intro e6
          rw [e6] at hs
          simp [SKeep] at hs
    · clear hvb5 hof5 hl5 hKT hCW5 h5 hvbt htf hne0 hown
      rintro a w ⟨own, v, V, m, Lk', ⟨U, rfl⟩, h, ev0, ev1, hK, hT, hLk, hvb, hvt, hf, hl, hC, hag⟩
      go_wp2_with fail
      go_end0
      refine ⟨rfl, own, [], Lk', ⟨v, V, m, h, ?_, ?_, hK, hT, Nat.zero_le _⟩, by omega, hC, hag⟩
      · rw [ev0]; exact Freshly.nil_
      · rw [ev1]; exact Settled.nil_
end Go.Proofs.YtbgfoobcpacfeaaDoor
