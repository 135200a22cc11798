/- What any bytes are read as: the document's DecodeFrame. -/
import Derived.Test.YtbgfoobcpacfeaaWDec
import Derived.Test.YtbgfoobcpacfeaaWRefEnc
import Derived.Test.YtbgfoobcpacfeaaWLaw2
namespace Go.Proofs.Ytbgfoobcpacfeaa
open Go.RowKit
set_option linter.unusedVariables false
set_option linter.unusedSimpArgs false

theorem mark3 {l : List UInt8} {b0 b1 b3 : UInt8} (hl : ¬ l.length < 26) (h0 : l.getD 0 0 = b0) (h1 : l.getD 1 0 = b1) (h3 : l.getD 3 0 = b3) :
    Wi.markOk l = (!((b0.toNat : Int) != 82) && (!((b1.toNat : Int) != 70) && !((b3.toNat : Int) != 1))) := by
  rw [Wi.markOk_eq (by omega), h0, h1, h3]
  have e : ∀ (x : UInt8) (n : Nat), n < 256 → (x == UInt8.ofNat n) = !((x.toNat : Int) != (n : Int)) := fun x n hn => by
    rw [Bool.eq_iff_iff]
    simp only [beq_iff_eq, Bool.not_eq_true', bne_eq_false_iff_eq, ← UInt8.toNat_inj, UInt8.toNat_ofNat']
    omega
  have a := e b0 82 (by decide)
  have b := e b1 70 (by decide)
  have c := e b3 1 (by decide)
  simp only [show UInt8.ofNat 82 = (82 : UInt8) from rfl, show UInt8.ofNat 70 = (70 : UInt8) from rfl, show UInt8.ofNat 1 = (1 : UInt8) from rfl] at a b c
  rw [a, b, c]
  rfl

set_option maxRecDepth 100000 in
set_option maxHeartbeats 16000000 in
theorem refDecodeFrame_calls {w : World} {v : Value} {l : List UInt8} (h : RB w v l) : Reads 15 #[v] w (Wi.decFr l) (Wi.decErr l) := by
  unfold Reads
  by_cases hl : l.length < 26
  · have he : Wi.decErr l = 71 := by unfold Wi.decErr; rw [if_pos hl]
    have hf : Wi.decFr l = Wi.zero := by unfold Wi.decFr; rw [he, if_neg (by decide)]
    rw [he, hf]
    have hlI : (l.length : Int) < 26 := by omega
    obtain ⟨p, c, rfl⟩ := h.form
    go_enter Try.func15, Try.ntmps15
    go_wp2_with fail
    refine bodyPost_ret (v := .tuple #[.agg (frameC Wi.zero (.slice none 0 0)), .int .i64 71]) (by simp [results, Try.results15, go_sem, Wi.zero]) rfl ⟨_, rfl, OB.nil_ _ _, below_alloc1 _ _⟩
  · obtain ⟨p, c, rfl⟩ := h.form
    obtain ⟨g, o, rfl, hg, -, hlc, hcm⟩ := h.addr (by intro e; subst e; simp at hl)
    have hm : maxLen = 9223372036854775807 := rfl
    have hgne : w.heap.size ≠ g := Nat.ne_of_gt hg
    have hlI : (26 : Int) ≤ (l.length : Int) := by omega
    have hcI : (26 : Int) ≤ (c : Int) := by omega
    have hcN : 26 ≤ c := by omega
    have hlen47 := h.len
    have hcell0 := cell_of_rb h 0 _ (Wi.getD_some (by omega))
    have hcell1 := cell_of_rb h 1 _ (Wi.getD_some (by omega))
    have hcell2 := cell_of_rb h 2 _ (Wi.getD_some (by omega))
    have hcell3 := cell_of_rb h 3 _ (Wi.getD_some (by omega))
    have hcell20 := cell_of_rb h 20 _ (Wi.getD_some (by omega))
    have hcell21 := cell_of_rb h 21 _ (Wi.getD_some (by omega))
    rw [Nat.add_zero] at hcell0
    have Hmark := Lib.hid (mark3 hl rfl rfl rfl)
    have Hk2 : Hid (Wi.kindAt l = ((l.getD 2 0).toNat : Int)) := rfl
    have HlenAt := Lib.hid (Wi.lenAt_eq (l := l) (by omega))
    have hb20 := (l.getD 20 0).toNat_lt
    have hb21 := (l.getD 21 0).toNat_lt
    have hb2 := (l.getD 2 0).toNat_lt
    have hdl : decide ((l.length : Int) < 26) = false := by simp; omega
    have hi20 : (20 : Int) < (l.length : Int) := by omega
    have hi21 : (21 : Int) < (l.length : Int) := by omega
    have Hz : Hid (∀ x, Wi.decErr l = x → x ≠ 0 → Wi.decFr l = Wi.zero) := fun x hx h0 => by unfold Wi.decFr; rw [hx, if_neg h0]
    have Hl := Lib.hid hl
    clear hl
    generalize l.getD 0 0 = b0 at *
    generalize l.getD 1 0 = b1 at *
    generalize l.getD 2 0 = b2 at *
    generalize l.getD 3 0 = b3 at *
    generalize l.getD 20 0 = b20 at *
    generalize l.getD 21 0 = b21 at *
    have hw20 : IntKind.i64.wrap (b20.toNat : Int) = (b20.toNat : Int) := IntWalk.i64_in _ ⟨by omega, by omega⟩
    have hw21 : IntKind.i64.wrap (b21.toNat : Int) = (b21.toNat : Int) := IntWalk.i64_in _ ⟨by omega, by omega⟩
    have hw256 : IntKind.i64.wrap (256 * (b20.toNat : Int)) = 256 * (b20.toNat : Int) := IntWalk.i64_in _ ⟨by omega, by omega⟩
    have hwsum : IntKind.i64.wrap (256 * (b20.toNat : Int) + (b21.toNat : Int)) = ((Wi.lenAt l : Nat) : Int) := by
      rw [IntWalk.i64_in _ ⟨by omega, by omega⟩, HlenAt.out]; omega
    have hlen2 : Wi.lenAt l < 65536 := by rw [HlenAt.out]; omega
    have hd0 : DW w (w.alloc (.cells zeroFC 25)) := Below.refl _ _
    cases e0 : ((b0.toNat : Int) != 82)
    rotate_left
    · have He := Lib.hid (show Wi.decErr l = 72 from decErr_mark Hl.out (by rw [Hmark.out, e0]; rfl))
      go_enter Try.func15, Try.ntmps15
      go_wp2_with fail
      exact bodyPost_ret (v := .tuple #[.agg (frameC Wi.zero (.slice none 0 0)), .int .i64 72]) (by simp [results, Try.results15, go_sem, Wi.zero]) rfl ⟨.slice none 0 0, by rw [He.out, Hz.out _ He.out (by decide)], by rw [Hz.out _ He.out (by decide)]; exact OB.nil_ _ _, below_alloc1 _ _⟩
    cases e1 : ((b1.toNat : Int) != 70)
    rotate_left
    · have He := Lib.hid (show Wi.decErr l = 72 from decErr_mark Hl.out (by rw [Hmark.out, e0, e1]; rfl))
      go_enter Try.func15, Try.ntmps15
      go_wp2_with fail
      exact bodyPost_ret (v := .tuple #[.agg (frameC Wi.zero (.slice none 0 0)), .int .i64 72]) (by simp [results, Try.results15, go_sem, Wi.zero]) rfl ⟨.slice none 0 0, by rw [He.out, Hz.out _ He.out (by decide)], by rw [Hz.out _ He.out (by decide)]; exact OB.nil_ _ _, below_alloc1 _ _⟩
    cases e3 : ((b3.toNat : Int) != 1)
    rotate_left
    · have He := Lib.hid (show Wi.decErr l = 72 from decErr_mark Hl.out (by rw [Hmark.out, e0, e1, e3]; rfl))
      go_enter Try.func15, Try.ntmps15
      go_wp2_with fail
      exact bodyPost_ret (v := .tuple #[.agg (frameC Wi.zero (.slice none 0 0)), .int .i64 72]) (by simp [results, Try.results15, go_sem, Wi.zero]) rfl ⟨.slice none 0 0, by rw [He.out, Hz.out _ He.out (by decide)], by rw [Hz.out _ He.out (by decide)]; exact OB.nil_ _ _, below_alloc1 _ _⟩
    have Hmk : Hid (Wi.markOk l = true) := by show _ = _; rw [Hmark.out, e0, e1, e3]; rfl
    by_cases hk1 : (b2.toNat : Int) < 1
    · have He := Lib.hid (show Wi.decErr l = 74 from decErr_kind Hl.out Hmk.out (by rw [Hk2.out]; unfold Wi.kindOk; simp; omega))
      go_enter Try.func15, Try.ntmps15
      go_wp2_with fail
      exact bodyPost_ret (v := .tuple #[.agg (frameC Wi.zero (.slice none 0 0)), .int .i64 74]) (by simp [results, Try.results15, go_sem, Wi.zero]) rfl ⟨.slice none 0 0, by rw [He.out, Hz.out _ He.out (by decide)], by rw [Hz.out _ He.out (by decide)]; exact OB.nil_ _ _, below_alloc1 _ _⟩
    by_cases hk4 : 4 < (b2.toNat : Int)
    · have He := Lib.hid (show Wi.decErr l = 74 from decErr_kind Hl.out Hmk.out (by rw [Hk2.out]; unfold Wi.kindOk; simp; omega))
      go_enter Try.func15, Try.ntmps15
      go_wp2_with fail
      exact bodyPost_ret (v := .tuple #[.agg (frameC Wi.zero (.slice none 0 0)), .int .i64 74]) (by simp [results, Try.results15, go_sem, Wi.zero]) rfl ⟨.slice none 0 0, by rw [He.out, Hz.out _ He.out (by decide)], by rw [Hz.out _ He.out (by decide)]; exact OB.nil_ _ _, below_alloc1 _ _⟩
    have Hk3' : Hid (Wi.kindOk (Wi.kindAt l) = true) := by show _ = _; rw [Hk2.out]; unfold Wi.kindOk; simp; omega
    go_enter Try.func15, Try.ntmps15
    go_wp2_with fail
    refine wp_region_here (by kernel_rfl) (by kernel_rfl) ?_
    (repeat (first | (apply wpR_pass rfl; (try simp only [Act.put, List.setIfInBounds_toArray, List.set_cons_succ, List.set_cons_zero])) | (apply wpR_val rfl; (focus (intro w1 hR; obtain ⟨hc, hf⟩ := bcellB hR; (try go_simp); (try exact Eq.refl _); done)); (try simp only [Act.put, List.setIfInBounds_toArray, List.set_cons_succ, List.set_cons_zero])) | (apply wpR_call rfl; (focus (intro w1 hR; obtain ⟨hc, hf⟩ := bcellB hR; (try go_simp); (try exact And.intro rfl rfl); done)); (focus (intro w1 hR; first | exact ().at_ (by first | omega | (simp; done) | (simp; omega)) hR)); (try simp only [Act.put, List.setIfInBounds_toArray, List.set_cons_succ, List.set_cons_zero])) | (apply wpR_val_want rfl; (focus (intro w1 hR; obtain ⟨hc, hf⟩ := bcellB hR; (try go_simp); (try exact Eq.refl _); done)); (try simp only [Act.put, List.setIfInBounds_toArray, List.set_cons_succ, List.set_cons_zero])) | (apply wpR_call_want rfl; (focus (intro w1 hR; obtain ⟨hc, hf⟩ := bcellB hR; (try go_simp); (try exact And.intro rfl rfl); done)); (focus (intro w1 hR; first | exact ().at_ (by first | omega | (simp; done) | (simp; omega)) hR)); (try simp only [Act.put, List.setIfInBounds_toArray, List.set_cons_succ, List.set_cons_zero]))))
    refine wpR_nil (fun w2 hb2 => ?_)
    rw [World.size_alloc] at hb2
    have hd2 : DW w w2 := hb2
    clear hb2 hcell0 hcell1 hcell2 hcell3 hcell20 hcell21 hw20 hw21 hw256 hwsum hd0
    go_wp2_with fail
    refine (wrong_calls _ (b2.toNat : Int) (Wi.lenAt l)).out.mono ?_
    rintro e w5 ⟨rfl, hb5⟩
    have hd5 := hd2.step hb5
    clear hd2 hb5 e0 e1 e3
    cases e4 : Wi.carries (b2.toNat : Int) (Wi.lenAt l)
    · have He := Lib.hid (show Wi.decErr l = 75 from decErr_body Hl.out Hmk.out Hk3'.out (by rw [Hk2.out]; exact e4))
      rw [← wb_self hd5.blk]
      have hlt := hd5.lt
      go_wp2_with fail
      exact bodyPost_ret (v := .tuple #[.agg (frameC Wi.zero (.slice none 0 0)), .int .i64 75]) (by simp [results, Try.results15, go_sem, Wi.zero, hlt]) rfl ⟨.slice none 0 0, by rw [He.out, Hz.out _ He.out (by decide)], by rw [Hz.out _ He.out (by decide)]; exact OB.nil_ _ _, below_wb hd5.below (Nat.le_refl _)⟩
    have Hc4 : Hid (Wi.carries (Wi.kindAt l) (Wi.lenAt l) = true) := by show _ = _; rw [Hk2.out]; exact e4
    by_cases h5 : l.length < 26 + Wi.lenAt l
    · have He := Lib.hid (show Wi.decErr l = 71 from decErr_short Hl.out Hmk.out Hk3'.out Hc4.out h5)
      rw [← wb_self hd5.blk]
      have hlt := hd5.lt
      go_wp2_with fail
      exact bodyPost_ret (v := .tuple #[.agg (frameC Wi.zero (.slice none 0 0)), .int .i64 71]) (by simp [results, Try.results15, go_sem, Wi.zero, hlt]) rfl ⟨.slice none 0 0, by rw [He.out, Hz.out _ He.out (by decide)], by rw [Hz.out _ He.out (by decide)]; exact OB.nil_ _ _, below_wb hd5.below (Nat.le_refl _)⟩
    by_cases h6 : 26 + Wi.lenAt l < l.length
    · have He := Lib.hid (show Wi.decErr l = 76 from decErr_extra Hl.out Hmk.out Hk3'.out Hc4.out h5 h6)
      rw [← wb_self hd5.blk]
      have hlt := hd5.lt
      go_wp2_with fail
      exact bodyPost_ret (v := .tuple #[.agg (frameC Wi.zero (.slice none 0 0)), .int .i64 76]) (by simp [results, Try.results15, go_sem, Wi.zero, hlt]) rfl ⟨.slice none 0 0, by rw [He.out, Hz.out _ He.out (by decide)], by rw [Hz.out _ He.out (by decide)]; exact OB.nil_ _ _, below_wb hd5.below (Nat.le_refl _)⟩
    have hlenE : l.length = 26 + Wi.lenAt l := by omega
    have h5' : ¬ ((l.length : Int) < 26 + (Wi.lenAt l : Int)) := by omega
    have h6' : ¬ (26 + (Wi.lenAt l : Int) < (l.length : Int)) := by omega
    have HlenE := Lib.hid hlenE
    clear hlenE h5 h6 e4
    go_wp2_with fail
    have hl26 : 26 ≤ l.length := by omega
    refine (four_calls 4 (hd5.rb h) (by omega)).out.mono ?_
    rintro e w6 ⟨rfl, hb6⟩
    have hd6 := hd5.step hb6
    clear hd5 hb6
    go_wp2_with fail
    refine (four_calls 8 (hd6.rb h) (by omega)).out.mono ?_
    rintro e w7 ⟨rfl, hb7⟩
    have hd7 := hd6.step hb7
    clear hd6 hb7
    go_wp2_with fail
    refine (four_calls 12 (hd7.rb h) (by omega)).out.mono ?_
    rintro e w8 ⟨rfl, hb8⟩
    have hd8 := hd7.step hb8
    clear hd7 hb8
    go_wp2_with fail
    refine (four_calls 16 (hd8.rb h) (by omega)).out.mono ?_
    rintro e w9 ⟨rfl, hb9⟩
    have hd9 := hd8.step hb9
    clear hd8 hb9
    have HRf : Hid (Wi.readFr l = ⟨(b2.toNat : Int), Wi.unbe ((l.drop 4).take 4), Wi.unbe ((l.drop 8).take 4), Wi.unbe ((l.drop 12).take 4), Wi.unbe ((l.drop 16).take 4), l.drop 26⟩) := by
      show _ = _; unfold Wi.readFr; rw [Hk2.out]
    have Hsum : Hid (Wi.sumBytes l = Wi.crcMore 0 (Wi.framed ⟨(b2.toNat : Int), Wi.unbe ((l.drop 4).take 4), Wi.unbe ((l.drop 8).take 4), Wi.unbe ((l.drop 12).take 4), Wi.unbe ((l.drop 16).take 4), l.drop 26⟩ 0)) := by
      show _ = _
      rw [← Wi.sumOf_read hl26 Hmk.out HlenE.out, HRf.out]; rfl
    have hOk : Wi.Fr.Ok ⟨(b2.toNat : Int), Wi.unbe ((l.drop 4).take 4), Wi.unbe ((l.drop 8).take 4), Wi.unbe ((l.drop 12).take 4), Wi.unbe ((l.drop 16).take 4), l.drop 26⟩ := ⟨sub4_lt l 4 (by omega), sub4_lt l 8 (by omega), sub4_lt l 12 (by omega), sub4_lt l 16 (by omega)⟩
    have hn2 : (l.drop 26).length ≤ 2048 := by
      have := Hc4.out
      simp only [Wi.carries, Bool.and_eq_true, decide_eq_true_eq] at this
      rw [List.length_drop, HlenE.out]
      omega
    have hs22 := sub4_lt l 22 (by omega)
    have hlt9 := hd9.lt
    have hg9 : g < w9.heap.size := by omega
    by_cases h0 : 0 < Wi.lenAt l
    · have h0I : (0 : Int) < (Wi.lenAt l : Int) := by omega
      have hc26 : ¬ c = 26 := by have := HlenE.out; omega
      have hX : DW w (w9.alloc (.cells #[.int .i64 (b2.toNat : Int), .int .u32 (Wi.unbe ((l.drop 4).take 4) : Nat), .int .u32 (Wi.unbe ((l.drop 8).take 4) : Nat), .int .u32 (Wi.unbe ((l.drop 12).take 4) : Nat), .int .u32 (Wi.unbe ((l.drop 16).take 4) : Nat), .slice none 0 0] 25)) := hd9.step (below_alloc1 _ _)
      have hkX : (w9.alloc (.cells #[.int .i64 (b2.toNat : Int), .int .u32 (Wi.unbe ((l.drop 4).take 4) : Nat), .int .u32 (Wi.unbe ((l.drop 8).take 4) : Nat), .int .u32 (Wi.unbe ((l.drop 12).take 4) : Nat), .int .u32 (Wi.unbe ((l.drop 16).take 4) : Nat), .slice none 0 0] 25)).heap[w9.heap.size]? = some (.cells #[.int .i64 (b2.toNat : Int), .int .u32 (Wi.unbe ((l.drop 4).take 4) : Nat), .int .u32 (Wi.unbe ((l.drop 8).take 4) : Nat), .int .u32 (Wi.unbe ((l.drop 12).take 4) : Nat), .int .u32 (Wi.unbe ((l.drop 16).take 4) : Nat), .slice none 0 0] 25 (0, 0)) := heap_new _ _ _ rfl
      have hm0 := Mk.lit (Nat.le_refl _) (Below.refl _ (w9.alloc (.cells #[.int .i64 (b2.toNat : Int), .int .u32 (Wi.unbe ((l.drop 4).take 4) : Nat), .int .u32 (Wi.unbe ((l.drop 8).take 4) : Nat), .int .u32 (Wi.unbe ((l.drop 12).take 4) : Nat), .int .u32 (Wi.unbe ((l.drop 16).take 4) : Nat), .slice none 0 0] 25))) #[] [] 0 rfl rfl (by simp)
      have hbk := ((hX.step (below_alloc1 _ (.cells #[] 5))).rb h).back 26 (c - 26) hl26 (by omega) (by omega)
      rw [World.size_alloc] at hm0
      go_wp2_with (first
        | (at_builtin
           refine wpList_append_Mk (.slice (some ⟨w9.heap.size + 1, 0, none⟩) 0 0) (l.drop 26) (.tmp 81) (.tmp 83) rfl rfl rfl rfl rfl hm0 hbk (by simp; omega) ?_
           intro v1 w10 hm10
           rw [List.nil_append] at hm10
           have hf10 := hm10.rb.form
           rw [List.length_drop] at hf10
           obtain ⟨p1, c1, rfl⟩ := hf10
           have hk10 := (hm10.below.block w9.heap.size (Nat.lt_succ_self _)).trans hkX
           have hltX := heap_lt hk10
           rw [← wb_self hk10])
        | fail)
      have hBn : (Value.slice p1 (l.length - 26) c1).ownBlock ≠ some w9.heap.size := fun e => by have := (hm10.own.lt _ e).1; omega
      have hdY : DW w (w10.wb w9.heap.size (#[.int .i64 (b2.toNat : Int), .int .u32 (Wi.unbe ((l.drop 4).take 4) : Nat), .int .u32 (Wi.unbe ((l.drop 8).take 4) : Nat), .int .u32 (Wi.unbe ((l.drop 12).take 4) : Nat), .int .u32 (Wi.unbe ((l.drop 16).take 4) : Nat), .slice p1 (l.length - 26) c1]) 25) := Below.trans (Below.trans hX (hm10.below.mono (by omega))) (below_wb (Below.refl _ _) hlt9)
      have hkY : (w10.wb w9.heap.size (#[.int .i64 (b2.toNat : Int), .int .u32 (Wi.unbe ((l.drop 4).take 4) : Nat), .int .u32 (Wi.unbe ((l.drop 8).take 4) : Nat), .int .u32 (Wi.unbe ((l.drop 12).take 4) : Nat), .int .u32 (Wi.unbe ((l.drop 16).take 4) : Nat), .slice p1 (l.length - 26) c1]) 25).heap[w9.heap.size]? = some (.cells (#[.int .i64 (b2.toNat : Int), .int .u32 (Wi.unbe ((l.drop 4).take 4) : Nat), .int .u32 (Wi.unbe ((l.drop 8).take 4) : Nat), .int .u32 (Wi.unbe ((l.drop 12).take 4) : Nat), .int .u32 (Wi.unbe ((l.drop 16).take 4) : Nat), .slice p1 (l.length - 26) c1]) 25 (0, 0)) := heap_wb hltX
      have hoY : OB (w9.heap.size + 1) (w10.wb w9.heap.size (#[.int .i64 (b2.toNat : Int), .int .u32 (Wi.unbe ((l.drop 4).take 4) : Nat), .int .u32 (Wi.unbe ((l.drop 8).take 4) : Nat), .int .u32 (Wi.unbe ((l.drop 12).take 4) : Nat), .int .u32 (Wi.unbe ((l.drop 16).take 4) : Nat), .slice p1 (l.length - 26) c1]) 25) (.slice p1 (l.length - 26) c1) (l.drop 26) := by
        have := hm10.own.wb hBn (#[.int .i64 (b2.toNat : Int), .int .u32 (Wi.unbe ((l.drop 4).take 4) : Nat), .int .u32 (Wi.unbe ((l.drop 8).take 4) : Nat), .int .u32 (Wi.unbe ((l.drop 12).take 4) : Nat), .int .u32 (Wi.unbe ((l.drop 16).take 4) : Nat), .slice p1 (l.length - 26) c1]) 25
        exact this
      have hn20 : w.heap.size ≠ w9.heap.size := Nat.ne_of_lt hlt9
      have hn02 := Ne.symm hn20
      have hB0 := hlt9
      have hBle : w.heap.size ≤ w9.heap.size + 1 := by omega
      clear hX hkX hm0 hbk hm10 hk10 hBn
      refine (framed_calls ⟨(b2.toNat : Int), Wi.unbe ((l.drop 4).take 4), Wi.unbe ((l.drop 8).take 4), Wi.unbe ((l.drop 12).take 4), Wi.unbe ((l.drop 16).take 4), l.drop 26⟩ 0 hoY.rb hOk hn2 (by decide)).mono ?_
      rintro e w11 ⟨v2, rfl, ho11, hb11⟩
      have hd11 := hdY.step hb11
      have hk11 := blk_below hkY hb11
      have hoY11 := hoY.below hb11
      go_wp2_with fail
      refine (refCrc_calls ho11.rb).out.mono ?_
      rintro e w12 ⟨rfl, hb12⟩
      have hd12 := hd11.step hb12
      have hk12 := blk_below hk11 hb12
      have hoY12 := hoY11.below hb12
      rw [← Hsum.out]
      go_wp2_with fail
      refine (four_calls 22 (hd12.rb h) (by omega)).out.mono ?_
      rintro e w13 ⟨rfl, hb13⟩
      have hd13 := hd12.step hb13
      have hk13 := blk_below hk12 hb13
      have hoY13 := hoY12.below hb13
      have hltb := heap_lt hk13
      clear hdY hkY hoY hb11 hd11 hk11 hoY11 hb12 hd12 hk12 hoY12 hb13 ho11
      rw [← wb_self hk13]
      rw [← wb_self hd13.blk]
      have hlt13 := hd13.lt
      cases e7 : (((Wi.sumBytes l : Nat) : Int) != ((Wi.unbe ((l.drop 22).take 4) : Nat) : Int))
      rotate_left
      · have He := Lib.hid (show Wi.decErr l = 73 from decErr_sum Hl.out Hmk.out Hk3'.out Hc4.out HlenE.out (fun h => (bne_iff_ne.1 e7) (by rw [h])))
        go_wp2_with fail
        exact bodyPost_ret (v := .tuple #[.agg (frameC Wi.zero (.slice none 0 0)), .int .i64 73]) (by simp [results, Try.results15, go_sem, Wi.zero, hlt13, hltb, hn02, hn20]) rfl ⟨.slice none 0 0, by rw [He.out, Hz.out _ He.out (by decide)], by rw [Hz.out _ He.out (by decide)]; exact OB.nil_ _ _, below_wb (below_wb hd13.below (Nat.le_refl _)) (Nat.le_of_lt hB0)⟩
      have He := Lib.hid (show Wi.decErr l = 0 from decErr_ok Hl.out Hmk.out Hk3'.out Hc4.out HlenE.out (by have h1 : ((Wi.sumBytes l : Nat) : Int) = ((Wi.unbe ((l.drop 22).take 4) : Nat) : Int) := (by simpa using e7); omega))
      have Hf : Hid (Wi.decFr l = Wi.readFr l) := by show _ = _; unfold Wi.decFr; rw [He.out, if_pos rfl]
      go_wp2_with fail
      refine bodyPost_ret (v := .tuple #[.agg (frameC (Wi.readFr l) (.slice p1 (l.length - 26) c1)), .int .i64 0]) ?_ rfl ⟨(.slice p1 (l.length - 26) c1), by rw [He.out, Hf.out], ?_, below_wb (below_wb hd13.below (Nat.le_refl _)) (Nat.le_of_lt hB0)⟩
      · rw [HRf.out]
        exact (by simp [results, Try.results15, go_sem, hlt13, hltb, hn02, hn20])
      · rw [Hf.out]
        refine (hoY13.at_ fun g' e => ?_).more hBle
        have hg' := (hoY13.lt g' e).1
        rw [heap_wb_ne (by omega), heap_wb_ne (by omega)]
    · have h0I : ¬ (0 : Int) < (Wi.lenAt l : Int) := by omega
      have hd26 : l.drop 26 = [] := List.drop_of_length_le (by have := HlenE.out; omega)
      have hdY : DW w (w9.alloc (.cells #[.int .i64 (b2.toNat : Int), .int .u32 (Wi.unbe ((l.drop 4).take 4) : Nat), .int .u32 (Wi.unbe ((l.drop 8).take 4) : Nat), .int .u32 (Wi.unbe ((l.drop 12).take 4) : Nat), .int .u32 (Wi.unbe ((l.drop 16).take 4) : Nat), .slice none 0 0] 25)) := hd9.step (below_alloc1 _ _)
      have hkY : (w9.alloc (.cells #[.int .i64 (b2.toNat : Int), .int .u32 (Wi.unbe ((l.drop 4).take 4) : Nat), .int .u32 (Wi.unbe ((l.drop 8).take 4) : Nat), .int .u32 (Wi.unbe ((l.drop 12).take 4) : Nat), .int .u32 (Wi.unbe ((l.drop 16).take 4) : Nat), .slice none 0 0] 25)).heap[w9.heap.size]? = some (.cells #[.int .i64 (b2.toNat : Int), .int .u32 (Wi.unbe ((l.drop 4).take 4) : Nat), .int .u32 (Wi.unbe ((l.drop 8).take 4) : Nat), .int .u32 (Wi.unbe ((l.drop 12).take 4) : Nat), .int .u32 (Wi.unbe ((l.drop 16).take 4) : Nat), .slice none 0 0] 25 (0, 0)) := heap_new _ _ _ rfl
      have hoY : OB (w9.heap.size + 1) (w9.alloc (.cells #[.int .i64 (b2.toNat : Int), .int .u32 (Wi.unbe ((l.drop 4).take 4) : Nat), .int .u32 (Wi.unbe ((l.drop 8).take 4) : Nat), .int .u32 (Wi.unbe ((l.drop 12).take 4) : Nat), .int .u32 (Wi.unbe ((l.drop 16).take 4) : Nat), .slice none 0 0] 25)) (.slice none 0 0) (l.drop 26) := by rw [hd26]; exact OB.nil_ _ _
      have hn20 : w.heap.size ≠ w9.heap.size := Nat.ne_of_lt hlt9
      have hn02 := Ne.symm hn20
      have hB0 := hlt9
      have hBle : w.heap.size ≤ w9.heap.size + 1 := by omega
      clear hd26
      go_wp2_with fail
      refine (framed_calls ⟨(b2.toNat : Int), Wi.unbe ((l.drop 4).take 4), Wi.unbe ((l.drop 8).take 4), Wi.unbe ((l.drop 12).take 4), Wi.unbe ((l.drop 16).take 4), l.drop 26⟩ 0 hoY.rb hOk hn2 (by decide)).mono ?_
      rintro e w11 ⟨v2, rfl, ho11, hb11⟩
      have hd11 := hdY.step hb11
      have hk11 := blk_below hkY hb11
      have hoY11 := hoY.below hb11
      go_wp2_with fail
      refine (refCrc_calls ho11.rb).out.mono ?_
      rintro e w12 ⟨rfl, hb12⟩
      have hd12 := hd11.step hb12
      have hk12 := blk_below hk11 hb12
      have hoY12 := hoY11.below hb12
      rw [← Hsum.out]
      go_wp2_with fail
      refine (four_calls 22 (hd12.rb h) (by omega)).out.mono ?_
      rintro e w13 ⟨rfl, hb13⟩
      have hd13 := hd12.step hb13
      have hk13 := blk_below hk12 hb13
      have hoY13 := hoY12.below hb13
      have hltb := heap_lt hk13
      clear hdY hkY hoY hb11 hd11 hk11 hoY11 hb12 hd12 hk12 hoY12 hb13 ho11
      rw [← wb_self hk13]
      rw [← wb_self hd13.blk]
      have hlt13 := hd13.lt
      cases e7 : (((Wi.sumBytes l : Nat) : Int) != ((Wi.unbe ((l.drop 22).take 4) : Nat) : Int))
      rotate_left
      · have He := Lib.hid (show Wi.decErr l = 73 from decErr_sum Hl.out Hmk.out Hk3'.out Hc4.out HlenE.out (fun h => (bne_iff_ne.1 e7) (by rw [h])))
        go_wp2_with fail
        exact bodyPost_ret (v := .tuple #[.agg (frameC Wi.zero (.slice none 0 0)), .int .i64 73]) (by simp [results, Try.results15, go_sem, Wi.zero, hlt13, hltb, hn02, hn20]) rfl ⟨.slice none 0 0, by rw [He.out, Hz.out _ He.out (by decide)], by rw [Hz.out _ He.out (by decide)]; exact OB.nil_ _ _, below_wb (below_wb hd13.below (Nat.le_refl _)) (Nat.le_of_lt hB0)⟩
      have He := Lib.hid (show Wi.decErr l = 0 from decErr_ok Hl.out Hmk.out Hk3'.out Hc4.out HlenE.out (by have h1 : ((Wi.sumBytes l : Nat) : Int) = ((Wi.unbe ((l.drop 22).take 4) : Nat) : Int) := (by simpa using e7); omega))
      have Hf : Hid (Wi.decFr l = Wi.readFr l) := by show _ = _; unfold Wi.decFr; rw [He.out, if_pos rfl]
      go_wp2_with fail
      refine bodyPost_ret (v := .tuple #[.agg (frameC (Wi.readFr l) (.slice none 0 0)), .int .i64 0]) ?_ rfl ⟨(.slice none 0 0), by rw [He.out, Hf.out], ?_, below_wb (below_wb hd13.below (Nat.le_refl _)) (Nat.le_of_lt hB0)⟩
      · rw [HRf.out]
        exact (by simp [results, Try.results15, go_sem, hlt13, hltb, hn02, hn20])
      · rw [Hf.out]
        refine (hoY13.at_ fun g' e => ?_).more hBle
        have hg' := (hoY13.lt g' e).1
        rw [heap_wb_ne (by omega), heap_wb_ne (by omega)]
end Go.Proofs.Ytbgfoobcpacfeaa
