/- The document's own EncodePacket. (Printed by wip/w7gen/mkrfenc.py.) -/
import Derived.Test.YtbgfoobcpacfeaaDoorPk8
import Derived.Test.YtbgfoobcpacfeaaDoorRfFits
import Derived.Deep.Cut
namespace Go.Proofs.YtbgfoobcpacfeaaDoor
open Go.RowKit
set_option maxRecDepth 100000
set_option linter.unusedVariables false
set_option linter.unusedSimpArgs false

namespace Wi
def rB5 (p : Pk) (c : Nat) (i : Nat) : List UInt8 := (List.range i).flatMap fun (k : Nat) => if rHas c (2 ^ k) then be 4 (p.num k) else []
def rBG (p : Pk) (c : Nat) : List UInt8 := if rHas c 32 then be 8 p.g1 ++ be 8 p.g2 ++ be 8 p.g3 ++ be 8 p.g4 else []
def rBS (p : Pk) (c : Nat) : List UInt8 := if rHas c 64 then p.sum else []
def rBD (p : Pk) (c : Nat) : List UInt8 := if rHas c 128 then be 2 p.data.length ++ p.data else []
def rBytes (p : Pk) (c : Nat) : List UInt8 := UInt8.ofNat c :: (rB5 p c 5 ++ rBG p c ++ rBS p c ++ rBD p c)
def rErr (p : Pk) : Int := if 1 ≤ p.cmd ∧ p.cmd ≤ 25 then (if rFits p p.cmd.toNat then 0 else 75) else 74
def rOut (p : Pk) : List UInt8 := if rErr p = 0 then rBytes p p.cmd.toNat else []
theorem rB5_succ (p : Pk) (c i : Nat) : rB5 p c (i + 1) = rB5 p c i ++ (if rHas c (2 ^ i) then be 4 (p.num i) else []) := by
  unfold rB5
  rw [List.range_succ, List.flatMap_append]
  simp
theorem rB5_len (p : Pk) (c : Nat) : ∀ i, (rB5 p c i).length ≤ 4 * i
  | 0 => Nat.le_refl _
  | i + 1 => by
    rw [rB5_succ, List.length_append]
    have := rB5_len p c i
    split
    · rw [be_length]; omega
    · simp; omega
theorem rBG_len (p : Pk) (c : Nat) : (rBG p c).length ≤ 32 := by
  unfold rBG
  split
  · simp [be_length]
  · simp
theorem rBS_len {p : Pk} (hp : p.Ok) (c : Nat) : (rBS p c).length ≤ 32 := by
  unfold rBS
  split
  · rw [hp.sum]; exact Nat.le_refl _
  · simp
end Wi
theorem rfits_enter : Og.Enters Tryd.prog 43 := fun args w => by kernel_rfl
theorem rput_enter : Og.Enters Tryd.prog 45 := fun args w => by kernel_rfl

/-- What the document's EncodePacket answers. -/
def REncPost (w : World) (p : Wi.Pk) (e : Ending) (w' : World) : Prop := ∃ v, e = .returned (.tuple #[v, .int .i64 (Wi.rErr p)]) ∧ OB w.heap.size w' v (Wi.rOut p) ∧ Below w.heap.size w w'
/-- Behind i of the five numbers. -/
def REncI (p : Wi.Pk) (c : Nat) (w w1 : World) (i : Nat) (a : Act) (w' : World) : Prop :=
  ∃ v, (∃ U : Nat → Value, a = ⟨#[U 0, .pointer (some ⟨w.heap.size, 0, none⟩), .slice none 0 0, .int .i64 0, v, .int .i64 i, U 6, U 7, U 8, U 9, U 10, U 11, U 12, U 13, U 14, U 15, U 16, U 17, U 18, U 19, U 20, U 21, U 22, U 23, U 24, U 25, U 26, U 27, U 28, U 29, U 30, U 31, U 32, U 33, U 34, U 35, U 36, U 37, U 38, U 39, U 40, U 41, U 42, U 43, U 44, U 45, U 46, U 47, U 48, U 49, U 50, U 51, U 52, U 53, U 54, U 55, U 56, U 57, U 58, U 59, U 60, U 61, U 62, U 63, U 64, U 65, U 66, U 67, U 68, U 69, U 70, U 71, U 72, U 73, U 74, U 75, U 76, U 77, U 78, U 79, U 80, U 81, U 82, U 83, U 84, U 85, U 86, U 87, U 88, U 89, U 90], []⟩) ∧ OB (w.heap.size + 1) w' v (UInt8.ofNat c :: Wi.rB5 p c i) ∧ Below (w.heap.size + 1) w1 w'
/-- Behind i bytes of the digest. -/
def REncS (p : Wi.Pk) (l0 : List UInt8) (w w1 : World) (i : Nat) (a : Act) (w' : World) : Prop :=
  ∃ v, (∃ U : Nat → Value, a = ⟨#[U 0, .pointer (some ⟨w.heap.size, 0, none⟩), .slice none 0 0, .int .i64 0, v, U 5, .int .i64 i, U 7, U 8, U 9, U 10, U 11, U 12, U 13, U 14, U 15, U 16, U 17, U 18, U 19, U 20, U 21, U 22, U 23, U 24, U 25, U 26, U 27, U 28, U 29, U 30, U 31, U 32, U 33, U 34, U 35, U 36, U 37, U 38, U 39, U 40, U 41, U 42, U 43, U 44, U 45, U 46, U 47, U 48, U 49, U 50, U 51, U 52, U 53, U 54, U 55, U 56, U 57, U 58, U 59, U 60, U 61, U 62, U 63, U 64, U 65, U 66, U 67, U 68, U 69, U 70, U 71, U 72, U 73, U 74, U 75, U 76, U 77, U 78, U 79, U 80, U 81, U 82, U 83, U 84, U 85, U 86, U 87, U 88, U 89, U 90], []⟩) ∧ OB (w.heap.size + 1) w' v (l0 ++ p.sum.take i) ∧ Below (w.heap.size + 1) w1 w'

set_option maxHeartbeats 16000000 in
theorem refEncP_calls {w : World} {pv : Value} {p : Wi.Pk} (hp : p.Ok) (hr : RB w pv p.data) (hC : Cars w) (h5 : Fives w) : Calls Tryd.prog 21 #[.agg (pkL p pv).toArray] w (REncPost w p) := by
  have hP1 : PkAt (w.alloc (.cells (pkL p pv).toArray 34)) w.heap.size p pv := heap_new w _ _ rfl
  have hb1 := below_alloc1 w (.cells (pkL p pv).toArray 34)
  have hs1 : (w.alloc (.cells (pkL p pv).toArray 34)).heap.size = w.heap.size + 1 := by simp
  have c0 := hP1.c0
  have hlt := hP1.lt
  generalize hca : (pkL p pv).toArray = ca at hP1 hb1 c0 hlt hs1 ⊢
  by_cases hk1 : p.cmd < 1
  · have he : Hid (Wi.rErr p = 74) := by show _ = _; unfold Wi.rErr; rw [if_neg (by omega)]
    have ho : Hid (Wi.rOut p = []) := by show _ = _; unfold Wi.rOut; rw [he.out]; rfl
    go_enter Tryd.func21, Tryd.ntmps21
    go_wp2_with fail
    go_ret2
    exact ⟨.slice none 0 0, by rw [he.out]; rfl, by rw [ho.out]; exact OB.nil_ _ _, hb1⟩
  · by_cases hk2 : 25 < p.cmd
    · have he : Hid (Wi.rErr p = 74) := by show _ = _; unfold Wi.rErr; rw [if_neg (by omega)]
      have ho : Hid (Wi.rOut p = []) := by show _ = _; unfold Wi.rOut; rw [he.out]; rfl
      go_enter Tryd.func21, Tryd.ntmps21
      go_wp2_with fail
      go_ret2
      exact ⟨.slice none 0 0, by rw [he.out]; rfl, by rw [ho.out]; exact OB.nil_ _ _, hb1⟩
    · obtain ⟨c, hcm⟩ : ∃ c : Nat, p.cmd = c := ⟨p.cmd.toNat, by omega⟩
      have hc : c < 26 := by omega
      have hcn : p.cmd.toNat = c := by omega
      have hcI : ¬ (c : Int) < 1 := by omega
      have hcI2 : ¬ 25 < (c : Int) := by omega
      have Hcmd := Lib.hid (show 1 ≤ p.cmd ∧ p.cmd ≤ 25 by omega)
      have Hcn := Lib.hid hcn
      have Hcm := Lib.hid hcm
      rw [hcm] at c0
      have hcb : ∀ w', Below w.heap.size w w' → Cars w' ∧ Fives w' := fun w' hb => ⟨Lies.below hC hb, Lies.below h5 hb⟩
      have hrb : ∀ w', Below w.heap.size w w' → RB w' pv p.data := fun w' hb => hr.below hb
      clear hk1 hk2 hcn hcm hC h5 hr
      go_enter Tryd.func21, Tryd.ntmps21
      go_upto_region 3 with fail
      rename_i hnext
      rw [← hca] at *
      clear hca
      generalize w.alloc (.cells (pkL p pv).toArray 34) = wB at *
      refine wp_region_lit ?_
      refine Og.st_start (n := 91) rfl fun a hF => ?_
      refine Og.st_same (.agg (pkL p pv).toArray) hF rfl rfl (by decide) (Og.exec_load rfl (load_pk hP1 hp)) ?_
      clear hF a; intro a hF
      refine Og.st_call (f := 43) (args := #[.agg (pkL p pv).toArray]) hF rfl rfl (by decide) ((Og.exec_call rfl rfits_enter rfl _).trans (by kernel_rfl)) ((rfits_calls hp (hrb _ hb1) c hc Hcm.out (hcb _ hb1).1 (hcb _ hb1).2).out.mono ?_)
      rintro e w2 ⟨rfl, hb2⟩
      refine ⟨_, rfl, ?_⟩
      clear hF a; intro a hF
      have hP2 := hP1.below hb2
      refine Og.st_same (.bool (!Wi.rFits p c)) hF rfl rfl (by decide) (by kernel_rfl) ?_
      clear hF a; intro a hF
      refine wpList_nil ?_
      obtain ⟨U, rfl⟩ := Og.Fr.lit_ex hF (fun U => ⟨#[U 0, .pointer (some ⟨w.heap.size, 0, none⟩), .slice none 0 0, .int .i64 0, U 4, U 5, U 6, U 7, U 8, U 9, U 10, U 11, U 12, U 13, U 14, U 15, U 16, .bool (!Wi.rFits p c), U 18, U 19, U 20, U 21, U 22, U 23, U 24, U 25, U 26, U 27, U 28, U 29, U 30, U 31, U 32, U 33, U 34, U 35, U 36, U 37, U 38, U 39, U 40, U 41, U 42, U 43, U 44, U 45, U 46, U 47, U 48, U 49, U 50, U 51, U 52, U 53, U 54, U 55, U 56, U 57, U 58, U 59, U 60, U 61, U 62, U 63, U 64, U 65, U 66, U 67, U 68, U 69, U 70, U 71, U 72, U 73, U 74, U 75, U 76, U 77, U 78, U 79, U 80, U 81, U 82, U 83, U 84, U 85, U 86, U 87, U 88, U 89, U 90], []⟩) (by kernel_rfl)
      clear hF
      refine hnext _ _ ?_
      clear hnext
      have hb02 := hb1.trans (hb2.mono hb1.size)
      rw [hs1] at hb2
      have hs2 : w.heap.size + 1 ≤ w2.heap.size := by have := hb2.size; omega
      clear c0 hlt
      cases hfit : Wi.rFits p c
      · have he : Hid (Wi.rErr p = 75) := by show _ = _; unfold Wi.rErr; rw [if_pos Hcmd.out, Hcn.out, hfit]; rfl
        have ho : Hid (Wi.rOut p = []) := by show _ = _; unfold Wi.rOut; rw [he.out]; rfl
        go_wp2_with fail
        go_ret2
        exact ⟨.slice none 0 0, by rw [he.out]; rfl, by rw [ho.out]; exact OB.nil_ _ _, hb02⟩
      · have he : Hid (Wi.rErr p = 0) := by show _ = _; unfold Wi.rErr; rw [if_pos Hcmd.out, Hcn.out, hfit]; rfl
        have ho : Hid (Wi.rOut p = Wi.rBytes p c) := by show _ = _; unfold Wi.rOut; rw [he.out, Hcn.out]; rfl
        clear hfit
        have c0 := hP2.c0
        rw [Hcm.out] at c0
        have hlt := hP2.lt
        have wc : IntKind.u8.wrap (c : Int) = (c : Int) := by simp only [IntKind.wrap, IntKind.bits, IntKind.signed]; simp; omega
        have hlit : #[Value.int .u8 (c : Nat)] = ([UInt8.ofNat c].map bv).toArray := by
          show _ = #[bv _]
          rw [bv_of, Int.emod_eq_of_lt (by omega) (by omega)]
        have ho3 : OB (w.heap.size + 1) (w2.alloc (.cells #[.int .u8 (c : Nat)] 5)) (.slice (some ⟨w2.heap.size, 0, none⟩) 1 1) (UInt8.ofNat c :: Wi.rB5 p c 0) :=
          OB.new w2 _ [UInt8.ofNat c] hlit (Nat.le_of_ble_eq_true rfl) hs2
        have hb3 : Below (w.heap.size + 1) wB (w2.alloc (.cells #[.int .u8 (c : Nat)] 5)) := hb2.trans ((below_alloc1 w2 _).mono hs2)
        have hb01 := hb1
        have hws1 : wB.heap.size = w.heap.size + 1 := hs1
        have hfacts : ∀ w', Below (w.heap.size + 1) wB w' → PkAt w' w.heap.size p pv ∧ Below w.heap.size w w' ∧ w.heap.size + 1 ≤ w'.heap.size := fun w' hb => ⟨hP1.belowB (Nat.lt_succ_self _) hb, hb01.trans (hb.mono (Nat.le_succ _)), by have := hb.size; omega⟩
        have h32 := fun (w2 : World) (h2 : Cars w2) => rhas_calls (w := w2) h2 c 32 hc (by decide) (by decide)
        have h64 := fun (w2 : World) (h2 : Cars w2) => rhas_calls (w := w2) h2 c 64 hc (by decide) (by decide)
        have h128 := fun (w2 : World) (h2 : Cars w2) => rhas_calls (w := w2) h2 c 128 hc (by decide) (by decide)
        have H32 := Lib.hid h32
        have H64 := Lib.hid h64
        have H128 := Lib.hid h128
        have hcI0 : (0 : Int) ≤ (c : Int) := Int.natCast_nonneg c
        clear hb1 hb2 hb02 hs2 h32 h64 h128 hlit
        go_wp2_with fail
        show Code.wp _ _ _ _ (w2.alloc (.cells #[.int .u8 (c : Nat)] 5))
        generalize w2.alloc (.cells #[.int .u8 (c : Nat)] 5) = w3 at *
        generalize w2.heap.size = G at *
        clear hP2 c0 hlt wc w2
        refine wp_loop_count (REncI p c w wB) 5 ⟨_, exU (fun U => ⟨#[U 0, .pointer (some ⟨w.heap.size, 0, none⟩), .slice none 0 0, .int .i64 0, .slice (some ⟨G, 0, none⟩) 1 1, .int .i64 0, U 6, U 7, U 8, U 9, U 10, U 11, U 12, U 13, U 14, U 15, U 16, U 17, U 18, U 19, U 20, U 21, U 22, U 23, U 24, U 25, U 26, U 27, U 28, U 29, U 30, U 31, U 32, U 33, U 34, U 35, U 36, U 37, U 38, U 39, U 40, U 41, U 42, U 43, U 44, U 45, U 46, U 47, U 48, U 49, U 50, U 51, U 52, U 53, U 54, U 55, U 56, U 57, U 58, U 59, U 60, U 61, U 62, U 63, U 64, U 65, U 66, U 67, U 68, U 69, U 70, U 71, U 72, U 73, U 74, U 75, U 76, U 77, U 78, U 79, U 80, U 81, U 82, U 83, U 84, U 85, U 86, U 87, U 88, U 89, U 90], []⟩) rfl, ho3, hb3⟩ ?_ ?_
        · clear ho3 hb3
          rintro i a w' hi ⟨v, ⟨U, rfl⟩, ho3, hb⟩
          obtain ⟨hP, hbw, hA⟩ := hfacts w' hb
          obtain ⟨hCw, h5w⟩ := hcb w' hbw
          have hi0 : (0 : Int) ≤ (i : Int) := Int.natCast_nonneg i
          have hi5 : (i : Int) < 5 := by omega
          have hw6 : IntKind.i64.wrap ((i : Int) + 1) = (i : Int) + 1 := IntWalk.i64_in _ ⟨by omega, by omega⟩
          have hcell := h5w.at_ i hi
          have hg1 := h5w.1
          have c0 := hP.c0
          rw [Hcm.out] at c0
          have hlt := hP.lt
          have Hs := Lib.hid (Wi.rB5_succ p c i)
          have hlen := Wi.rB5_len p c i
          have hfld := fun w2 => rfield_calls (w := w2) (pv := pv) hp i hi
          have hhas := fun (w2 : World) (h2 : Cars w2) => rhas_calls (w := w2) h2 c (2 ^ i) hc (Nat.pow_pos (by decide)) (by
            have := Nat.pow_le_pow_right (n := 2) (by decide) (show i ≤ 7 by omega)
            simpa using this)
          have hx := hp.num i
          generalize hF0 : 2 ^ i = F at *
          generalize p.num i = x at *
          have wx : IntKind.u64.wrap ((x : Nat) : Int) = ((x : Nat) : Int) := by simp only [IntKind.wrap, IntKind.bits, IntKind.signed]; simp; omega
          have Hfld := Lib.hid hfld
          have Hhas := Lib.hid hhas
          have Hlen := Lib.hid (show (UInt8.ofNat c :: Wi.rB5 p c i).length + 4 ≤ 140737488355328 by simp; omega)
          have hcw : ∀ w1', Below w'.heap.size w' w1' → Cars w1' := fun w1' hb => Lies.below hCw hb
          have Hcw := Lib.hid hcw
          have HP := Lib.hid hP
          have Hx := Lib.hid hx
          clear hfld hhas hF0 hi hlen hcw hP hx
          go_upto_region 9 with fail
          rename_i hblk K9 hnext
          refine wp_region_here (by kernel_rfl) (by kernel_rfl) ?_
          (repeat (first | (apply wpR_pass rfl; (try simp only [Act.put, List.setIfInBounds_toArray, List.set_cons_succ, List.set_cons_zero])) | (apply wpR_val rfl; (focus (intro w1 hR; obtain ⟨hc, hf⟩ := bcellB hR; (try go_simp); (try exact Eq.refl _); done)); (try simp only [Act.put, List.setIfInBounds_toArray, List.set_cons_succ, List.set_cons_zero])) | (apply wpR_call rfl; (focus (intro w1 hR; obtain ⟨hc, hf⟩ := bcellB hR; (try go_simp); (try exact And.intro rfl rfl); done)); (focus (intro w1 hR; first | exact (Hhas.out w1 (Hcw.out w1 hR)).at_ (by first | omega | (simp; done) | (simp; omega)) hR)); (try simp only [Act.put, List.setIfInBounds_toArray, List.set_cons_succ, List.set_cons_zero])) | (apply wpR_val_want rfl; (focus (intro w1 hR; obtain ⟨hc, hf⟩ := bcellB hR; (try go_simp); (try exact Eq.refl _); done)); (try simp only [Act.put, List.setIfInBounds_toArray, List.set_cons_succ, List.set_cons_zero])) | (apply wpR_call_want rfl; (focus (intro w1 hR; obtain ⟨hc, hf⟩ := bcellB hR; (try go_simp); (try exact And.intro rfl rfl); done)); (focus (intro w1 hR; first | exact (Hhas.out w1 (Hcw.out w1 hR)).at_ (by first | omega | (simp; done) | (simp; omega)) hR)); (try simp only [Act.put, List.setIfInBounds_toArray, List.set_cons_succ, List.set_cons_zero]))))
          refine wpR_nil ?_
          intro w2 hb2
          have hP2 := HP.out.below hb2
          have hcell2 := ((bcell hb2).1 1 i hg1).trans hcell
          have hg12 := Nat.lt_of_lt_of_le hg1 hb2.size
          have ho2 := ho3.below hb2
          have hb2' := hb.trans (hb2.mono hA)
          have hA2 := Nat.le_trans hA hb2.size
          clear hcell hg1 c0 hlt HP Hcw Hhas hb hb2 hA ho3 hCw h5w hbw
          refine hnext _ _ ?_
          clear hnext
          cases hh : Wi.rHas c F
          · rw [hh] at Hs
            go_wp2_with fail
            refine ⟨v, exU (fun U => ⟨#[U 0, .pointer (some ⟨w.heap.size, 0, none⟩), .slice none 0 0, .int .i64 0, v, .int .i64 (i + 1 : Nat), U 6, U 7, U 8, U 9, U 10, U 11, U 12, U 13, U 14, U 15, U 16, U 17, U 18, U 19, U 20, U 21, U 22, U 23, U 24, U 25, U 26, U 27, U 28, U 29, U 30, U 31, U 32, U 33, U 34, U 35, U 36, U 37, U 38, U 39, U 40, U 41, U 42, U 43, U 44, U 45, U 46, U 47, U 48, U 49, U 50, U 51, U 52, U 53, U 54, U 55, U 56, U 57, U 58, U 59, U 60, U 61, U 62, U 63, U 64, U 65, U 66, U 67, U 68, U 69, U 70, U 71, U 72, U 73, U 74, U 75, U 76, U 77, U 78, U 79, U 80, U 81, U 82, U 83, U 84, U 85, U 86, U 87, U 88, U 89, U 90], []⟩) rfl, ?_, hb2'⟩
            rw [Hs.out]
            simpa using ho2
          · rw [hh] at Hs
            go_upto_region 10 with fail
            refine wp_region_R_tail (Below w2.heap.size w2) 7 (by kernel_rfl) (by kernel_rfl) ⟨rfl, rfl, rfl, Nat.le_refl _, fun _ _ => rfl⟩ (WR.out ?_)
            ((iterate 1 (first | (apply WR.val rfl; (focus (intro w1 hR; obtain ⟨hc, hf⟩ := bcellB hR; (try go_simp); (try exact Eq.refl _); done)); (try simp only [Act.put, List.setIfInBounds_toArray, List.set_cons_succ, List.set_cons_zero])) | (apply WR.call rfl; (focus (intro w1 hR; obtain ⟨hc, hf⟩ := bcellB hR; (try go_simp); (try exact And.intro rfl rfl); done)); (focus (intro w1 hR; first | fail)); (try simp only [Act.put, List.setIfInBounds_toArray, List.set_cons_succ, List.set_cons_zero])))))
            refine WR.val rfl (fun w4 hR => Og.exec_load rfl (load_pk (hP2.below hR) hp)) ?_
            (try simp only [Act.put, List.setIfInBounds_toArray, List.set_cons_succ, List.set_cons_zero])
            ((iterate 3 (first | (apply WR.val rfl; (focus (intro w1 hR; obtain ⟨hc, hf⟩ := bcellB hR; (try go_simp); (try exact Eq.refl _); done)); (try simp only [Act.put, List.setIfInBounds_toArray, List.set_cons_succ, List.set_cons_zero])) | (apply WR.call rfl; (focus (intro w1 hR; obtain ⟨hc, hf⟩ := bcellB hR; (try go_simp); (try exact And.intro rfl rfl); done)); (focus (intro w1 hR; first | exact (Hfld.out w1).at_ (by first | omega | (simp; done) | (simp; omega)) hR)); (try simp only [Act.put, List.setIfInBounds_toArray, List.set_cons_succ, List.set_cons_zero])))); (iterate 1 (first | (apply WR.val rfl; (focus (intro w1 hR; obtain ⟨hc, hf⟩ := bcellB hR; (try go_simp); (try exact Eq.refl _); done)); (try simp only [Act.put, List.setIfInBounds_toArray, List.set_cons_succ, List.set_cons_zero])) | (apply WR.call rfl; (focus (intro w1 hR; obtain ⟨hc, hf⟩ := bcellB hR; (try go_simp); (try exact And.intro rfl rfl); done)); (focus (intro w1 hR; first | exact (Hfld.out w1).at_ (by first | omega | (simp; done) | (simp; omega)) hR)); (try simp only [Act.put, List.setIfInBounds_toArray, List.set_cons_succ, List.set_cons_zero])))); (iterate 1 (first | (apply WR.val rfl; (focus (intro w1 hR; obtain ⟨hc, hf⟩ := bcellB hR; (try go_simp); (try exact Eq.refl _); done)); (try simp only [Act.put, List.setIfInBounds_toArray, List.set_cons_succ, List.set_cons_zero])) | (apply WR.call rfl; (focus (intro w1 hR; obtain ⟨hc, hf⟩ := bcellB hR; (try go_simp); (try exact And.intro rfl rfl); done)); (focus (intro w1 hR; first | exact (Hfld.out w1).at_ (by first | omega | (simp; done) | (simp; omega)) hR)); (try simp only [Act.put, List.setIfInBounds_toArray, List.set_cons_succ, List.set_cons_zero])))))
            refine WR.nil ?_
            intro w3 hb3
            have ho3 := ho2.below hb3
            have hb3' := hb2'.trans (hb3.mono hA2)
            have hA3 := Nat.le_trans hA2 hb3.size
            have hx := Hx.out
            refine Og.st_start (n := 91) rfl fun a hF => ?_
            refine Og.st_call (f := 45) (args := #[v, .int .u64 x, .int .i64 4]) hF rfl rfl (by decide) ((Og.exec_call rfl rput_enter rfl _).trans (by kernel_rfl)) ((refPut_calls 4 x ho3 hA3 (by decide) (by omega) Hlen.out).mono ?_)
            rintro e w4 ⟨v4, rfl, ho4, haf⟩
            refine ⟨_, rfl, ?_⟩
            clear hF a; intro a hF
            refine Og.st_same v4 hF rfl rfl (by decide) (by kernel_rfl) ?_
            clear hF a; intro a hF
            refine wpList_nil ?_
            obtain ⟨U, rfl⟩ := Og.Fr.lit_ex hF (fun U => ⟨#[U 0, .pointer (some ⟨w.heap.size, 0, none⟩), .slice none 0 0, .int .i64 0, v4, .int .i64 i, U 6, U 7, U 8, U 9, U 10, U 11, U 12, U 13, U 14, U 15, U 16, U 17, U 18, U 19, U 20, U 21, U 22, U 23, U 24, U 25, U 26, U 27, U 28, U 29, U 30, U 31, U 32, U 33, U 34, U 35, U 36, U 37, U 38, U 39, U 40, U 41, U 42, U 43, U 44, U 45, U 46, U 47, U 48, U 49, U 50, U 51, U 52, U 53, U 54, U 55, U 56, U 57, U 58, U 59, U 60, U 61, U 62, U 63, U 64, U 65, U 66, U 67, U 68, U 69, U 70, U 71, U 72, U 73, U 74, U 75, U 76, U 77, U 78, U 79, U 80, U 81, U 82, U 83, U 84, U 85, U 86, U 87, U 88, U 89, U 90], []⟩) (by kernel_rfl)
            clear hF
            have hb4 := hb3'.trans (haf.belowB (fun k e => (ho3.lt k e).1) hA3)
            clear haf hb3 hb3' hA3 ho3 ho2 hb2' hP2 hcell2 hx
            refine hblk _ _ ?_
            go_wp2_with fail
            refine ⟨v4, exU (fun U => ⟨#[U 0, .pointer (some ⟨w.heap.size, 0, none⟩), .slice none 0 0, .int .i64 0, v4, .int .i64 (i + 1 : Nat), U 6, U 7, U 8, U 9, U 10, U 11, U 12, U 13, U 14, U 15, U 16, U 17, U 18, U 19, U 20, U 21, U 22, U 23, U 24, U 25, U 26, U 27, U 28, U 29, U 30, U 31, U 32, U 33, U 34, U 35, U 36, U 37, U 38, U 39, U 40, U 41, U 42, U 43, U 44, U 45, U 46, U 47, U 48, U 49, U 50, U 51, U 52, U 53, U 54, U 55, U 56, U 57, U 58, U 59, U 60, U 61, U 62, U 63, U 64, U 65, U 66, U 67, U 68, U 69, U 70, U 71, U 72, U 73, U 74, U 75, U 76, U 77, U 78, U 79, U 80, U 81, U 82, U 83, U 84, U 85, U 86, U 87, U 88, U 89, U 90], []⟩) rfl, ?_, hb4⟩
            rw [Hs.out]
            simpa using ho4
        · clear ho3 hb3 w3
          rintro a w4 ⟨v4, ⟨U, rfl⟩, ho4, hb4⟩
          obtain ⟨hP4, hbw4, hA4⟩ := hfacts w4 hb4
          have c04 := hP4.c0
          rw [Hcm.out] at c04
          have hlt4 := hP4.lt
          have Hl1 := Lib.hid (show (UInt8.ofNat c :: Wi.rB5 p c 5).length ≤ 21 from by have := Wi.rB5_len p c 5; simp; omega)
          have Hout := Lib.hid (show Wi.rOut p = (((UInt8.ofNat c :: Wi.rB5 p c 5) ++ Wi.rBG p c) ++ Wi.rBS p c) ++ Wi.rBD p c from by rw [ho.out]; simp [Wi.rBytes])
          generalize UInt8.ofNat c :: Wi.rB5 p c 5 = l1 at *
          go_wp2_with fail
          refine (H32.out _ (hcb _ hbw4).1).out.mono ?_
          rintro e w5 ⟨rfl, hb5⟩
          have ho5 := ho4.below hb5
          have hb5' := hb4.trans (hb5.mono hA4)
          clear ho4 hb5 hb4 hP4 hbw4 hA4 c04 hlt4
          go_upto_if 42 with fail
          rename_i hnext
          refine wp_cut (fun a' w' => ∃ v, (∃ U : Nat → Value, a' = ⟨#[U 0, .pointer (some ⟨w.heap.size, 0, none⟩), .slice none 0 0, .int .i64 0, v, U 5, U 6, U 7, U 8, U 9, U 10, U 11, U 12, U 13, U 14, U 15, U 16, U 17, U 18, U 19, U 20, U 21, U 22, U 23, U 24, U 25, U 26, U 27, U 28, U 29, U 30, U 31, U 32, U 33, U 34, U 35, U 36, U 37, U 38, U 39, U 40, U 41, U 42, U 43, U 44, U 45, U 46, U 47, U 48, U 49, U 50, U 51, U 52, U 53, U 54, U 55, U 56, U 57, U 58, U 59, U 60, U 61, U 62, U 63, U 64, U 65, U 66, U 67, U 68, U 69, U 70, U 71, U 72, U 73, U 74, U 75, U 76, U 77, U 78, U 79, U 80, U 81, U 82, U 83, U 84, U 85, U 86, U 87, U 88, U 89, U 90], []⟩) ∧ OB (w.heap.size + 1) w' v (l1 ++ Wi.rBG p c) ∧ Below (w.heap.size + 1) wB w') ?_ ?_
          · clear ho5 hb5'
            rintro a w6 ⟨v6, ⟨U, rfl⟩, ho6, hb6⟩
            have Hl2 := Lib.hid (show (l1 ++ Wi.rBG p c).length ≤ 53 from by have := Wi.rBG_len p c; have := Hl1.out; rw [List.length_append]; omega)
            generalize l1 ++ Wi.rBG p c = l2 at *
            refine hnext _ _ ?_
            clear hnext Hl1
            obtain ⟨hP6, hbw6, hA6⟩ := hfacts w6 hb6
            have c06 := hP6.c0
            rw [Hcm.out] at c06
            have hlt6 := hP6.lt
            go_wp2_with fail
            refine (H64.out _ (hcb _ hbw6).1).out.mono ?_
            rintro e w7 ⟨rfl, hb7⟩
            have ho7 := ho6.below hb7
            have hb7' := hb6.trans (hb7.mono hA6)
            clear ho6 hb7 hb6 hP6 hbw6 hA6 c06 hlt6
            go_upto_if 65 with fail
            rename_i hnext
            refine wp_cut (fun a' w' => ∃ v, (∃ U : Nat → Value, a' = ⟨#[U 0, .pointer (some ⟨w.heap.size, 0, none⟩), .slice none 0 0, .int .i64 0, v, U 5, U 6, U 7, U 8, U 9, U 10, U 11, U 12, U 13, U 14, U 15, U 16, U 17, U 18, U 19, U 20, U 21, U 22, U 23, U 24, U 25, U 26, U 27, U 28, U 29, U 30, U 31, U 32, U 33, U 34, U 35, U 36, U 37, U 38, U 39, U 40, U 41, U 42, U 43, U 44, U 45, U 46, U 47, U 48, U 49, U 50, U 51, U 52, U 53, U 54, U 55, U 56, U 57, U 58, U 59, U 60, U 61, U 62, U 63, U 64, U 65, U 66, U 67, U 68, U 69, U 70, U 71, U 72, U 73, U 74, U 75, U 76, U 77, U 78, U 79, U 80, U 81, U 82, U 83, U 84, U 85, U 86, U 87, U 88, U 89, U 90], []⟩) ∧ OB (w.heap.size + 1) w' v (l2 ++ Wi.rBS p c) ∧ Below (w.heap.size + 1) wB w') ?_ ?_
            · clear ho7 hb7'
              rintro a w8 ⟨v8, ⟨U, rfl⟩, ho8, hb8⟩
              have Hl3 := Lib.hid (show (l2 ++ Wi.rBS p c).length ≤ 85 from by have := Wi.rBS_len hp c; have := Hl2.out; rw [List.length_append]; omega)
              generalize l2 ++ Wi.rBS p c = l3 at *
              refine hnext _ _ ?_
              clear hnext Hl2
              obtain ⟨hP8, hbw8, hA8⟩ := hfacts w8 hb8
              have c08 := hP8.c0
              rw [Hcm.out] at c08
              have hlt8 := hP8.lt
              go_wp2_with fail
              refine (H128.out _ (hcb _ hbw8).1).out.mono ?_
              rintro e w9 ⟨rfl, hb9⟩
              have ho9 := ho8.below hb9
              have hb9' := hb8.trans (hb9.mono hA8)
              clear ho8 hb9 hb8 hP8 hbw8 hA8 c08 hlt8
              obtain ⟨hP9, hbw9, hA9⟩ := hfacts w9 hb9'
              obtain ⟨q, m, hpv⟩ := (hrb _ hbw9).form
              have h42 := hP9.cd hp
              have hlt9 := hP9.lt
              cases hh : Wi.rHas c 128
              · have hD : Wi.rBD p c = [] := by unfold Wi.rBD; rw [hh]; rfl
                rw [hD, List.append_nil] at Hout
                clear hD hpv h42
                go_wp2_with fail
                go_ret2
                exact ⟨v8, by rw [he.out]; rfl, by rw [Hout.out]; exact ho9.more (Nat.le_succ _), hbw9⟩
              · have hD : Wi.rBD p c = Wi.be 2 p.data.length ++ p.data := by unfold Wi.rBD; rw [hh]; rfl
                rw [hD] at Hout
                have hdl := hp.data
                have wn : IntKind.u64.wrap ((p.data.length : Nat) : Int) = ((p.data.length : Nat) : Int) := by simp only [IntKind.wrap, IntKind.bits, IntKind.signed]; simp; omega
                have Hrb := Lib.hid hrb
                have Hdl := Lib.hid hdl
                have Hpv := Lib.hid hpv
                rw [hpv] at h42
                generalize hn : p.data.length = n at h42 wn Hpv
                clear hD hrb hdl hpv
                go_wp2_with fail
                refine (refPut_calls 2 n ho9 hA9 (by decide) (by have := Hdl.out; omega) (by have := Hl3.out; omega)).mono ?_
                rintro e w10 ⟨v10, rfl, ho10, haf⟩
                have hb10 := hb9'.trans (haf.belowB (fun k e => (ho9.lt k e).1) hA9)
                obtain ⟨hP10, hbw10, hA10⟩ := hfacts w10 hb10
                have hd10 := Hrb.out _ hbw10
                rw [Hpv.out] at hd10
                have h42' := hP10.cd hp
                rw [Hpv.out] at h42'
                have hlt10 := hP10.lt
                have hlen : (l3 ++ Wi.be 2 n).length + p.data.length ≤ 140737488355328 := by
                  have := Hl3.out; have := Hdl.out
                  rw [List.length_append, Wi.be_length]; omega
                clear h42 haf ho9 hb9' hP9 hbw9 hA9 hlt9 wn
                go_wp2_with (first
                  | (at_builtin
                     refine wpList_append_OB (v := v10) (xv := .slice q n m) rfl (.tmp 86) (.tmp 88) rfl rfl rfl rfl ho10 hd10 hlen hA10 ?_
                     intro v11 w11 ho11 hg11 hat11)
                  | fail)
                go_ret2
                have hb11 : Below (w.heap.size + 1) w10 w11 := (Below.refl _ _).grown hg11 hA10 (fun k e => (ho10.lt k e).1)
                exact ⟨v11, by rw [he.out]; rfl, by rw [Hout.out, ← hn, ← List.append_assoc] at *; exact ho11.more (Nat.le_succ _), (hfacts w11 (hb10.trans hb11)).2.1⟩
            · intro J K' hJ hK'
              cases hh : Wi.rHas c 64
              · have hS : Wi.rBS p c = [] := by unfold Wi.rBS; rw [hh]; rfl
                rw [hS, List.append_nil] at hJ
                clear hS
                go_wp2_with fail
                exact Met.intro (hJ _ _ ⟨v6, exU (fun U => ⟨#[U 0, .pointer (some ⟨w.heap.size, 0, none⟩), .slice none 0 0, .int .i64 0, v6, U 5, U 6, U 7, U 8, U 9, U 10, U 11, U 12, U 13, U 14, U 15, U 16, U 17, U 18, U 19, U 20, U 21, U 22, U 23, U 24, U 25, U 26, U 27, U 28, U 29, U 30, U 31, U 32, U 33, U 34, U 35, U 36, U 37, U 38, U 39, U 40, U 41, U 42, U 43, U 44, U 45, U 46, U 47, U 48, U 49, U 50, U 51, U 52, U 53, U 54, U 55, U 56, U 57, U 58, U 59, U 60, U 61, U 62, U 63, U 64, U 65, U 66, U 67, U 68, U 69, U 70, U 71, U 72, U 73, U 74, U 75, U 76, U 77, U 78, U 79, U 80, U 81, U 82, U 83, U 84, U 85, U 86, U 87, U 88, U 89, U 90], []⟩) rfl, ho7, hb7'⟩)
              · have hS : Wi.rBS p c = p.sum := by unfold Wi.rBS; rw [hh]; rfl
                rw [hS] at hJ
                clear hS
                go_wp2_with fail
                refine wp_loop_count (REncS p l2 w wB) 32 ⟨v6, exU (fun U => ⟨#[U 0, .pointer (some ⟨w.heap.size, 0, none⟩), .slice none 0 0, .int .i64 0, v6, U 5, .int .i64 0, U 7, U 8, U 9, U 10, U 11, U 12, U 13, U 14, U 15, U 16, U 17, U 18, U 19, U 20, U 21, U 22, U 23, U 24, U 25, U 26, U 27, U 28, U 29, U 30, U 31, U 32, U 33, U 34, U 35, U 36, U 37, U 38, U 39, U 40, U 41, U 42, U 43, U 44, U 45, U 46, U 47, U 48, U 49, U 50, U 51, U 52, U 53, U 54, U 55, U 56, U 57, U 58, U 59, U 60, U 61, U 62, U 63, U 64, U 65, U 66, U 67, U 68, U 69, U 70, U 71, U 72, U 73, U 74, U 75, U 76, U 77, U 78, U 79, U 80, U 81, U 82, U 83, U 84, U 85, U 86, U 87, U 88, U 89, U 90], []⟩) rfl, by simpa using ho7, hb7'⟩ ?_ ?_
                · clear ho7 hb7'
                  rintro i a w' hi ⟨v, ⟨U, rfl⟩, ho3, hb⟩
                  obtain ⟨hP, hbw, hA⟩ := hfacts w' hb
                  obtain ⟨b, hbi⟩ : ∃ b, p.sum[i]? = some b := ⟨p.sum[i]'(by rw [hp.sum]; omega), List.getElem?_eq_getElem _⟩
                  have hcell := hP.cs i b hbi
                  have hlt := hP.lt
                  have hi0 : (0 : Int) ≤ (i : Int) := Int.natCast_nonneg i
                  have hi5 : (i : Int) < 32 := by omega
                  have hw6 : IntKind.i64.wrap ((i : Int) + 1) = (i : Int) + 1 := IntWalk.i64_in _ ⟨by omega, by omega⟩
                  have Hnx := Lib.hid (Wi.take_next hbi)
                  have hlen : (l2 ++ p.sum.take i).length + 1 ≤ 140737488355328 := by
                    have := Hl2.out; have := List.length_take_le i p.sum; have := hp.sum
                    rw [List.length_append]; omega
                  clear hbi hi
                  go_wp2_with (first
                    | (at_builtin
                       refine wpList_append_OB (v := v) rfl (.tmp 70) (.tmp 75) rfl rfl rfl rfl (ho3.below (below_alloc1 _ _)) (RB.lit _ _ [b] 1 rfl rfl (by simp)) hlen (by simp; omega) ?_
                       intro v1 w1 ho1 hg1 hat1)
                    | fail)
                  have hbn : Below (w.heap.size + 1) w' w1 := ((below_alloc1 w' _).mono hA).grown hg1 (by simp; omega) (fun k e => (ho3.lt k e).1)
                  rw [List.append_assoc, ← Hnx.out] at ho1
                  exact ⟨v1, exU (fun U => ⟨#[U 0, .pointer (some ⟨w.heap.size, 0, none⟩), .slice none 0 0, .int .i64 0, v1, U 5, .int .i64 (i + 1 : Nat), U 7, U 8, U 9, U 10, U 11, U 12, U 13, U 14, U 15, U 16, U 17, U 18, U 19, U 20, U 21, U 22, U 23, U 24, U 25, U 26, U 27, U 28, U 29, U 30, U 31, U 32, U 33, U 34, U 35, U 36, U 37, U 38, U 39, U 40, U 41, U 42, U 43, U 44, U 45, U 46, U 47, U 48, U 49, U 50, U 51, U 52, U 53, U 54, U 55, U 56, U 57, U 58, U 59, U 60, U 61, U 62, U 63, U 64, U 65, U 66, U 67, U 68, U 69, U 70, U 71, U 72, U 73, U 74, U 75, U 76, U 77, U 78, U 79, U 80, U 81, U 82, U 83, U 84, U 85, U 86, U 87, U 88, U 89, U 90], []⟩) rfl, ho1, hb.trans hbn⟩
                · clear ho7 hb7'
                  rintro a w8 ⟨v8, ⟨U, rfl⟩, ho8, hb8⟩
                  rw [List.take_of_length_le (by rw [hp.sum]; exact Nat.le_refl _)] at ho8
                  go_wp2_with fail
                  exact Met.intro (hJ _ _ ⟨v8, exU (fun U => ⟨#[U 0, .pointer (some ⟨w.heap.size, 0, none⟩), .slice none 0 0, .int .i64 0, v8, U 5, U 6, U 7, U 8, U 9, U 10, U 11, U 12, U 13, U 14, U 15, U 16, U 17, U 18, U 19, U 20, U 21, U 22, U 23, U 24, U 25, U 26, U 27, U 28, U 29, U 30, U 31, U 32, U 33, U 34, U 35, U 36, U 37, U 38, U 39, U 40, U 41, U 42, U 43, U 44, U 45, U 46, U 47, U 48, U 49, U 50, U 51, U 52, U 53, U 54, U 55, U 56, U 57, U 58, U 59, U 60, U 61, U 62, U 63, U 64, U 65, U 66, U 67, U 68, U 69, U 70, U 71, U 72, U 73, U 74, U 75, U 76, U 77, U 78, U 79, U 80, U 81, U 82, U 83, U 84, U 85, U 86, U 87, U 88, U 89, U 90], []⟩) rfl, ho8, hb8⟩)
          · intro J K' hJ hK'
            cases hh : Wi.rHas c 32
            · have hS : Wi.rBG p c = [] := by unfold Wi.rBG; rw [hh]; rfl
              rw [hS, List.append_nil] at hJ
              clear hS
              go_wp2_with fail
              exact Met.intro (hJ _ _ ⟨v4, exU (fun U => ⟨#[U 0, .pointer (some ⟨w.heap.size, 0, none⟩), .slice none 0 0, .int .i64 0, v4, U 5, U 6, U 7, U 8, U 9, U 10, U 11, U 12, U 13, U 14, U 15, U 16, U 17, U 18, U 19, U 20, U 21, U 22, U 23, U 24, U 25, U 26, U 27, U 28, U 29, U 30, U 31, U 32, U 33, U 34, U 35, U 36, U 37, U 38, U 39, U 40, U 41, U 42, U 43, U 44, U 45, U 46, U 47, U 48, U 49, U 50, U 51, U 52, U 53, U 54, U 55, U 56, U 57, U 58, U 59, U 60, U 61, U 62, U 63, U 64, U 65, U 66, U 67, U 68, U 69, U 70, U 71, U 72, U 73, U 74, U 75, U 76, U 77, U 78, U 79, U 80, U 81, U 82, U 83, U 84, U 85, U 86, U 87, U 88, U 89, U 90], []⟩) rfl, ho5, hb5'⟩)
            · have hS : Wi.rBG p c = Wi.be 8 p.g1 ++ Wi.be 8 p.g2 ++ Wi.be 8 p.g3 ++ Wi.be 8 p.g4 := by unfold Wi.rBG; rw [hh]; rfl
              rw [hS] at hJ
              have HJ := Lib.hid hJ
              clear hS hJ
              have hv5 : v4 = v4 := rfl
              obtain ⟨v5, hv5⟩ : ∃ v5, v5 = v4 := ⟨_, rfl⟩
              rw [← hv5] at ho5 ⊢
              clear hv5
              have hb5 := hb5'
              obtain ⟨hP5, hbw5, hA5⟩ := hfacts w5 hb5
              have hlt5 := hP5.lt
              have c6 := hP5.c6
              go_wp2_with fail
              refine (refPut_calls 8 p.g1 ho5 hA5 (by decide) hp.g1 (by have := Hl1.out; (try simp only [List.length_append, Wi.be_length]); omega)).mono ?_
              rintro e w6 ⟨v6, rfl, ho6, haf⟩
              have hb6 := hb5.trans (haf.belowB (fun k e => (ho5.lt k e).1) hA5)
              obtain ⟨hP6, hbw6, hA6⟩ := hfacts w6 hb6
              have hlt6 := hP6.lt
              clear haf c6 hlt5 hP5 hbw5 ho5
              have c7 := hP6.c7
              go_wp2_with fail
              refine (refPut_calls 8 p.g2 ho6 hA6 (by decide) hp.g2 (by have := Hl1.out; (try simp only [List.length_append, Wi.be_length]); omega)).mono ?_
              rintro e w7 ⟨v7, rfl, ho7, haf⟩
              have hb7 := hb6.trans (haf.belowB (fun k e => (ho6.lt k e).1) hA6)
              obtain ⟨hP7, hbw7, hA7⟩ := hfacts w7 hb7
              have hlt7 := hP7.lt
              clear haf c7 hlt6 hP6 hbw6 ho6
              have c8 := hP7.c8
              go_wp2_with fail
              refine (refPut_calls 8 p.g3 ho7 hA7 (by decide) hp.g3 (by have := Hl1.out; (try simp only [List.length_append, Wi.be_length]); omega)).mono ?_
              rintro e w8 ⟨v8, rfl, ho8, haf⟩
              have hb8 := hb7.trans (haf.belowB (fun k e => (ho7.lt k e).1) hA7)
              obtain ⟨hP8, hbw8, hA8⟩ := hfacts w8 hb8
              have hlt8 := hP8.lt
              clear haf c8 hlt7 hP7 hbw7 ho7
              have c9 := hP8.c9
              go_wp2_with fail
              refine (refPut_calls 8 p.g4 ho8 hA8 (by decide) hp.g4 (by have := Hl1.out; (try simp only [List.length_append, Wi.be_length]); omega)).mono ?_
              rintro e w9 ⟨v9, rfl, ho9, haf⟩
              have hb9 := hb8.trans (haf.belowB (fun k e => (ho8.lt k e).1) hA8)
              obtain ⟨hP9, hbw9, hA9⟩ := hfacts w9 hb9
              have hlt9 := hP9.lt
              clear haf c9 hlt8 hP8 hbw8 ho8
              go_wp2_with fail
              refine Met.intro (HJ.out _ _ ⟨v9, exU (fun U => ⟨#[U 0, .pointer (some ⟨w.heap.size, 0, none⟩), .slice none 0 0, .int .i64 0, v9, U 5, U 6, U 7, U 8, U 9, U 10, U 11, U 12, U 13, U 14, U 15, U 16, U 17, U 18, U 19, U 20, U 21, U 22, U 23, U 24, U 25, U 26, U 27, U 28, U 29, U 30, U 31, U 32, U 33, U 34, U 35, U 36, U 37, U 38, U 39, U 40, U 41, U 42, U 43, U 44, U 45, U 46, U 47, U 48, U 49, U 50, U 51, U 52, U 53, U 54, U 55, U 56, U 57, U 58, U 59, U 60, U 61, U 62, U 63, U 64, U 65, U 66, U 67, U 68, U 69, U 70, U 71, U 72, U 73, U 74, U 75, U 76, U 77, U 78, U 79, U 80, U 81, U 82, U 83, U 84, U 85, U 86, U 87, U 88, U 89, U 90], []⟩) rfl, ?_, hb9⟩)
              rw [show l1 ++ (Wi.be 8 p.g1 ++ Wi.be 8 p.g2 ++ Wi.be 8 p.g3 ++ Wi.be 8 p.g4) = l1 ++ Wi.be 8 p.g1 ++ Wi.be 8 p.g2 ++ Wi.be 8 p.g3 ++ Wi.be 8 p.g4 by simp]
              exact ho9
end Go.Proofs.YtbgfoobcpacfeaaDoor
