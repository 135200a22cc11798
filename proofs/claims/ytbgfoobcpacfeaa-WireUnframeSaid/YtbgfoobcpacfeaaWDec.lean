/- What any bytes are read as: the program's DecodeFrame. -/
import Derived.Test.YtbgfoobcpacfeaaWRead
import Derived.Test.YtbgfoobcpacfeaaWCrc
import Derived.Test.YtbgfoobcpacfeaaWLib
import Derived.Test.YtbgfoobcpacfeaaWClone
import Derived.Test.YtbgfoobcpacfeaaRegF
namespace Go.Proofs.Ytbgfoobcpacfeaa
open Go.RowKit
set_option linter.unusedVariables false
set_option linter.unusedSimpArgs false

theorem make4 (w : World) : (Instr.makeSlice 23 (.int .i64 4) (.int .i64 4)).run Try.prog w = .ok (.slice (some ⟨w.heap.size, 0, none⟩) 4 4) (w.alloc (.cells #[.int .u8 0, .int .u8 0, .int .u8 0, .int .u8 0] 5)) := by kernel_rfl

set_option maxRecDepth 100000 in
set_option maxHeartbeats 8000000 in
theorem sumOf_calls {w : World} {v : Value} {l : List UInt8} (h : RB w v l) (hl : 26 ≤ l.length) : Pur Try.prog 24 #[v] w (.int .u64 (Wi.sumBytes l : Nat)) := by
  unfold Pur
  have h0 := h
  obtain ⟨p, c, rfl⟩ := h.form
  obtain ⟨g, o, rfl, hg, -, hlc, hcm⟩ := h.addr (by intro e; subst e; simp at hl)
  have hm : maxLen = 9223372036854775807 := rfl
  have hcI : (22 : Int) ≤ (c : Int) := by omega
  have hf := h0.front 22 c (by omega) (by omega) hcm
  go_enter Try.func24, Try.ntmps24
  go_wp2_with fail
  refine (crc_calls hf).out.mono ?_
  rintro e w1 ⟨rfl, hb1⟩
  have hmk := make4 w1
  have hz := RB.lit w1 #[.int .u8 0, .int .u8 0, .int .u8 0, .int .u8 0] [0, 0, 0, 0] 4 rfl rfl (by simp)
  have hb2 := hb1.trans ((below_alloc1 w1 (.cells #[.int .u8 0, .int .u8 0, .int .u8 0, .int .u8 0] 5)).mono hb1.size)
  have hc1 := Wi.crcMore_lt 0 (l.take 22)
  go_wp2_with fail
  refine (crcMore_calls _ hc1 hz).out.mono ?_
  rintro e w2 ⟨rfl, hb3⟩
  replace hb2 := hb2.trans (hb3.mono hb2.size)
  have Hs : Hid (Wi.sumBytes l = Wi.crcMore (Wi.crcMore (Wi.crcMore 0 (l.take 22)) [0, 0, 0, 0]) (l.drop 26)) := by
    show _ = _
    rw [Wi.crcMore_append hc1, Wi.crcMore_append (by decide)]; unfold Wi.sumBytes; rw [List.append_assoc]
  have hc2 := Wi.crcMore_lt (Wi.crcMore 0 (l.take 22)) [0, 0, 0, 0]
  generalize Wi.crcMore (Wi.crcMore 0 (l.take 22)) [0, 0, 0, 0] = cr at *
  have hlI : (26 : Int) ≤ (l.length : Int) := by omega
  clear hmk hz hb3 hf
  by_cases he : c = 26
  · subst he
    have hl0 : l.drop 26 = [] := List.drop_of_length_le hlc
    rw [hl0] at Hs
    have hl26 : l.length = 26 := by omega
    have Hl := Lib.hid hl26
    clear hl26
    go_wp2_with fail
    refine (crcMore_calls _ hc2 (RB.empty _ _ _ (Nat.zero_le _))).out.mono ?_
    rintro e w3 ⟨rfl, hb4⟩
    rw [← Hs.out]
    have hs32 := Wi.crcMore_lt cr []
    rw [← Hs.out] at hs32
    go_wp2_with fail
    go_ret
    exact ⟨rfl, hb2.trans (hb4.mono hb2.size)⟩
  · have hbk := (h0.below hb2).back 26 (c - 26) (by omega) (by omega) (by omega)
    go_wp2_with fail
    refine (crcMore_calls _ hc2 hbk).out.mono ?_
    rintro e w3 ⟨rfl, hb4⟩
    rw [← Hs.out]
    have hs32 := Wi.crcMore_lt cr (l.drop 26)
    rw [← Hs.out] at hs32
    go_wp2_with fail
    go_ret
    exact ⟨rfl, hb2.trans (hb4.mono hb2.size)⟩

/-- The cells of a frame. -/
abbrev frameC (x : Wi.Fr) (v : Value) : Array Value := #[.int .i64 x.kind, .int .u32 x.from_, .int .u32 x.to, .int .u32 x.seq, .int .u32 x.ack, v]
/-- A call that answers a frame, its payload in memory of its own, and a number. -/
def Reads (f : FuncId) (args : Array Value) (w : World) (x : Wi.Fr) (err : Int) : Prop :=
  Calls Try.prog f args w fun e w' => ∃ v', e = .returned (.tuple #[.agg (frameC x v'), .int .i64 err]) ∧ OB w.heap.size w' v' x.pay ∧ Below w.heap.size w w'
theorem Reads.out {f : FuncId} {args : Array Value} {w : World} {x : Wi.Fr} {err : Int} (h : Reads f args w x err) :
  Calls Try.prog f args w fun e w' => ∃ v', e = .returned (.tuple #[.agg (frameC x v'), .int .i64 err]) ∧ OB w.heap.size w' v' x.pay ∧ Below w.heap.size w w' := h

abbrev zeroFC : Array Value := #[.int .i64 0, .int .u32 0, .int .u32 0, .int .u32 0, .int .u32 0, .slice none 0 0]
theorem alloc_frame (a : Act) (w : World) (o : Oper) (ho : o.op = Op.alloc 25) : (execOp a.eval o).run Try.prog w = .ok (.value (Fl.ptr w.heap.size)) (w.alloc (.cells zeroFC 25)) := by
  unfold execOp
  rw [ho]
  rfl
theorem sub4_lt (l : List UInt8) (k : Nat) (h : k + 4 ≤ l.length) : Wi.unbe ((l.drop k).take 4) < 4294967296 := by
  have := Wi.unbe_lt ((l.drop k).take 4)
  rw [List.length_take, List.length_drop, Nat.min_eq_left (by omega)] at this
  exact this
theorem sub4_len (l : List UInt8) (k : Nat) : ((l.drop k).take 4).length ≤ 8 := by rw [List.length_take]; omega
/-- The world behind the cell of the answer. -/
def DW (w w' : World) : Prop := Below (w.heap.size + 1) (w.alloc (.cells zeroFC 25)) w'
section
variable {w w' w'' : World}
theorem DW.blk (h : DW w w') : w'.heap[w.heap.size]? = some (.cells zeroFC 25 (0, 0)) := (Below.block h _ (Nat.lt_succ_self _)).trans (heap_new _ _ _ rfl)
theorem DW.lt (h : DW w w') : w.heap.size < w'.heap.size := heap_lt h.blk
theorem DW.step (h : DW w w') (hb : Below w'.heap.size w' w'') : DW w w'' := Below.trans h (hb.mono h.lt)
theorem DW.below (h : DW w w') : Below w.heap.size w w' := (below_alloc1 w _).trans (Below.mono h (Nat.le_succ _))
theorem DW.rb (h : DW w w') {v : Value} {m : List UInt8} (hr : RB w v m) : RB w' v m := hr.below h.below
theorem DW.cell (h : DW w w') {g : Nat} (hg : g < w.heap.size) (o : Nat) : w'.cell? ⟨g, o, none⟩ = w.cell? ⟨g, o, none⟩ := h.below.cell (p := ⟨g, o, none⟩) hg
end

section
variable {l : List UInt8} {b3 : UInt8}
theorem markOk_no1 (e1 : (((Wi.unbe (l.take 2) : Nat) : Int) != 21062) = true) : Wi.markOk l = false := by
  unfold Wi.markOk
  rw [show (Wi.unbe (l.take 2) == 21062) = false from beq_eq_false_iff_ne.2 (fun h => (bne_iff_ne.1 e1) (by rw [h]; rfl))]; rfl
theorem b3_eq (h : ((b3.toNat : Int) != 1) = false) : b3 = 1 := by
  have h1 : (b3.toNat : Int) = 1 := by simpa using h
  apply UInt8.toNat_inj.1
  show b3.toNat = 1
  omega
theorem markOk_no2 (h3 : l.getD 3 0 = b3) (e2 : ((b3.toNat : Int) != 1) = true) : Wi.markOk l = false := by
  unfold Wi.markOk
  rw [h3, show (b3 == 1) = false from beq_eq_false_iff_ne.2 (fun h => (bne_iff_ne.1 e2) (by rw [h]; rfl)), Bool.and_false]
theorem markOk_yes (h3 : l.getD 3 0 = b3) (e1 : (((Wi.unbe (l.take 2) : Nat) : Int) != 21062) = false) (e2 : ((b3.toNat : Int) != 1) = false) : Wi.markOk l = true := by
  unfold Wi.markOk
  have h1 : ((Wi.unbe (l.take 2) : Nat) : Int) = 21062 := by simpa using e1
  rw [h3, b3_eq e2, show Wi.unbe (l.take 2) = 21062 by omega]
  rfl
variable (hl : ¬ l.length < 26)
include hl
theorem decErr_mark (h : Wi.markOk l = false) : Wi.decErr l = 72 := by unfold Wi.decErr; rw [if_neg hl, if_pos h]
theorem decErr_kind (h : Wi.markOk l = true) (hk : Wi.kindOk (Wi.kindAt l) = false) : Wi.decErr l = 74 := by unfold Wi.decErr; rw [if_neg hl, if_neg (by rw [h]; decide), if_pos hk]
theorem decErr_body (h : Wi.markOk l = true) (hk : Wi.kindOk (Wi.kindAt l) = true) (hc : Wi.carries (Wi.kindAt l) (Wi.lenAt l) = false) : Wi.decErr l = 75 := by
  unfold Wi.decErr; rw [if_neg hl, if_neg (by rw [h]; decide), if_neg (by rw [hk]; decide), if_pos hc]
variable (h : Wi.markOk l = true) (hk : Wi.kindOk (Wi.kindAt l) = true) (hc : Wi.carries (Wi.kindAt l) (Wi.lenAt l) = true)
include h hk hc
theorem decErr_short (h5 : l.length < 26 + Wi.lenAt l) : Wi.decErr l = 71 := by
  unfold Wi.decErr; rw [if_neg hl, if_neg (by rw [h]; decide), if_neg (by rw [hk]; decide), if_neg (by rw [hc]; decide), if_pos h5]
theorem decErr_extra (h5 : ¬ l.length < 26 + Wi.lenAt l) (h6 : 26 + Wi.lenAt l < l.length) : Wi.decErr l = 76 := by
  unfold Wi.decErr; rw [if_neg hl, if_neg (by rw [h]; decide), if_neg (by rw [hk]; decide), if_neg (by rw [hc]; decide), if_neg h5, if_pos h6]
variable (h5 : l.length = 26 + Wi.lenAt l)
include h5
theorem decErr_sum (h7 : Wi.unbe ((l.drop 22).take 4) ≠ Wi.sumBytes l) : Wi.decErr l = 73 := by
  unfold Wi.decErr; rw [if_neg hl, if_neg (by rw [h]; decide), if_neg (by rw [hk]; decide), if_neg (by rw [hc]; decide), if_neg (by omega), if_neg (by omega), if_pos h7]
theorem decErr_ok (h7 : Wi.unbe ((l.drop 22).take 4) = Wi.sumBytes l) : Wi.decErr l = 0 := by
  unfold Wi.decErr; rw [if_neg hl, if_neg (by rw [h]; decide), if_neg (by rw [hk]; decide), if_neg (by rw [hc]; decide), if_neg (by omega), if_neg (by omega), if_neg (by rw [h7]; simp)]
end

theorem big_sub {w w1 : World} {g o c : Nat} {l : List UInt8} (h : RB w (.slice (some ⟨g, o, none⟩) l.length c) l) (hd : DW w w1) (hl : 26 ≤ l.length) (hlc : l.length ≤ c) (hcm : c ≤ maxLen) (k : Nat) (hk : k + 4 ≤ 26) :
    Pur Try.prog 23 #[.slice (some ⟨g, o + k, none⟩) 4 (c - k)] w1 (.int .u64 (Wi.unbe ((l.drop k).take 4) : Nat)) :=
  big_calls (hd.rb (h.sub k 4 (c - k) (by omega) (by omega) (by omega))) (sub4_len l k)

set_option maxRecDepth 100000 in
set_option maxHeartbeats 16000000 in
theorem decodeFrame_calls {w : World} {v : Value} {l : List UInt8} (h : RB w v l) : Reads 14 #[v] w (Wi.decFr l) (Wi.decErr l) := by
  unfold Reads
  by_cases hl : l.length < 26
  · have he : Wi.decErr l = 71 := by unfold Wi.decErr; rw [if_pos hl]
    have hf : Wi.decFr l = Wi.zero := by unfold Wi.decFr; rw [he, if_neg (by decide)]
    rw [he, hf]
    have hlI : (l.length : Int) < 26 := by omega
    obtain ⟨p, c, rfl⟩ := h.form
    go_enter Try.func14, Try.ntmps14
    go_wp2_with fail
    refine bodyPost_ret (v := .tuple #[.agg (frameC Wi.zero (.slice none 0 0)), .int .i64 71]) (by simp [results, Try.results14, go_sem, Wi.zero]) rfl ⟨_, rfl, OB.nil_ _ _, below_alloc1 _ _⟩
  · obtain ⟨p, c, rfl⟩ := h.form
    obtain ⟨g, o, rfl, hg, -, hlc, hcm⟩ := h.addr (by intro e; subst e; simp at hl)
    have hm : maxLen = 9223372036854775807 := rfl
    have hgne : w.heap.size ≠ g := Nat.ne_of_gt hg
    have hlI : (26 : Int) ≤ (l.length : Int) := by omega
    have hcI : (26 : Int) ≤ (c : Int) := by omega
    have hcN : 26 ≤ c := by omega
    have hlen47 := h.len
    obtain ⟨b2, hb2⟩ : ∃ b, l[2]? = some b := ⟨l[2], List.getElem?_eq_getElem (by omega)⟩
    obtain ⟨b3, hb3⟩ : ∃ b, l[3]? = some b := ⟨l[3], List.getElem?_eq_getElem (by omega)⟩
    have Hk2 : Hid (Wi.kindAt l = (b2.toNat : Int)) := by show _ = _; unfold Wi.kindAt; rw [List.getD_eq_getElem?_getD, hb2]; rfl
    have Hk3 : Hid (l.getD 3 0 = b3) := by show _ = _; rw [List.getD_eq_getElem?_getD, hb3]; rfl
    have hcell2 := cell_of_rb h 2 b2 hb2
    have hcell3 := cell_of_rb h 3 b3 hb3
    have hs20 := h.sub 20 2 (c - 20) (by omega) (by omega) (by omega)
    have hs0 := h.front 2 c (by omega) (by omega) (by omega)
    have hs22 := h.sub 22 4 (c - 22) (by omega) (by omega) (by omega)
    have hq20 : ¬ c = 20 := by omega
    have hq22 : ¬ c = 22 := by omega
    have hb28 := b2.toNat_lt
    have hwk : IntKind.i64.wrap (b2.toNat : Int) = (b2.toNat : Int) := IntWalk.i64_in _ ⟨by omega, by omega⟩
    have hlen2 : Wi.lenAt l < 65536 := by
      have := Wi.unbe_lt ((l.drop 20).take 2)
      rw [List.length_take, List.length_drop, Nat.min_eq_left (by omega)] at this
      exact this
    have hwl : IntKind.i64.wrap ((Wi.lenAt l : Nat) : Int) = ((Wi.lenAt l : Nat) : Int) := IntWalk.i64_in _ ⟨by omega, by omega⟩
    have Hz : Hid (∀ x, Wi.decErr l = x → x ≠ 0 → Wi.decFr l = Wi.zero) := fun x hx h0 => by unfold Wi.decFr; rw [hx, if_neg h0]
    have hl20 : ((l.drop 20).take 2).length ≤ 8 := by rw [List.length_take]; omega
    have hl0 : (l.take 2).length ≤ 8 := by rw [List.length_take]; omega
    have hl22 : ((l.drop 22).take 4).length ≤ 8 := by rw [List.length_take]; omega
    have hdl : decide ((l.length : Int) < 26) = false := by simp; omega
    have hi2 : (2 : Int) < (l.length : Int) := by omega
    have hc22 : (22 : Int) ≤ (c : Int) := by omega
    have Hl := Lib.hid hl
    clear hb2 hb3 hl
    go_enter Try.func14, Try.ntmps14
    go_wp2_with fail
    refine wp_region_here (by kernel_rfl) (by kernel_rfl) ?_
    (repeat (first | (apply wpR_pass rfl; (try simp only [Act.put, List.setIfInBounds_toArray, List.set_cons_succ, List.set_cons_zero])) | (apply wpR_val rfl; (focus (intro w1 hR; obtain ⟨hc, hf⟩ := bcellB hR; (try go_simp); (try exact Eq.refl _); done)); (try simp only [Act.put, List.setIfInBounds_toArray, List.set_cons_succ, List.set_cons_zero])) | (apply wpR_call rfl; (focus (intro w1 hR; obtain ⟨hc, hf⟩ := bcellB hR; (try go_simp); (try exact And.intro rfl rfl); done)); (focus (intro w1 hR; first | exact ((show Pur Try.prog 23 #[.slice (some ⟨g, o + 20, none⟩) 2 (c - 20)] w1 (.int .u64 (Wi.lenAt l : Nat)) from big_calls ((hs20.below (below_alloc1 _ _)).below hR) hl20)).at_ (by first | omega | (simp; done) | (simp; omega)) hR)); (try simp only [Act.put, List.setIfInBounds_toArray, List.set_cons_succ, List.set_cons_zero])) | (apply wpR_val_want rfl; (focus (intro w1 hR; obtain ⟨hc, hf⟩ := bcellB hR; (try go_simp); (try exact Eq.refl _); done)); (try simp only [Act.put, List.setIfInBounds_toArray, List.set_cons_succ, List.set_cons_zero])) | (apply wpR_call_want rfl; (focus (intro w1 hR; obtain ⟨hc, hf⟩ := bcellB hR; (try go_simp); (try exact And.intro rfl rfl); done)); (focus (intro w1 hR; first | exact ((show Pur Try.prog 23 #[.slice (some ⟨g, o + 20, none⟩) 2 (c - 20)] w1 (.int .u64 (Wi.lenAt l : Nat)) from big_calls ((hs20.below (below_alloc1 _ _)).below hR) hl20)).at_ (by first | omega | (simp; done) | (simp; omega)) hR)); (try simp only [Act.put, List.setIfInBounds_toArray, List.set_cons_succ, List.set_cons_zero]))))
    refine wpR_nil (fun w2 hb2 => ?_)
    rw [World.size_alloc] at hb2
    have hd2 : DW w w2 := hb2
    clear hb2
    go_wp2_with fail
    refine (big_calls (hd2.rb hs0) hl0).out.mono ?_
    rintro e w3 ⟨rfl, hb3⟩
    have hd3 := hd2.step hb3
    have hcell3' := (hd3.cell hg (o + 3)).trans hcell3
    clear hd2 hb3
    cases e1 : (((Wi.unbe (l.take 2) : Nat) : Int) != 21062)
    rotate_left
    · have He := Lib.hid (show Wi.decErr l = 72 from decErr_mark Hl.out (markOk_no1 e1))
      rw [← wb_self hd3.blk]
      have hlt := hd3.lt
      go_wp2_with fail
      exact bodyPost_ret (v := .tuple #[.agg (frameC Wi.zero (.slice none 0 0)), .int .i64 72]) (by simp [results, Try.results14, go_sem, Wi.zero, hlt]) rfl ⟨.slice none 0 0, by rw [He.out, Hz.out _ He.out (by decide)], by rw [Hz.out _ He.out (by decide)]; exact OB.nil_ _ _, below_wb hd3.below (Nat.le_refl _)⟩
    cases e2 : ((b3.toNat : Int) != 1)
    rotate_left
    · have He := Lib.hid (show Wi.decErr l = 72 from decErr_mark Hl.out (markOk_no2 Hk3.out e2))
      rw [← wb_self hd3.blk]
      have hlt := hd3.lt
      go_wp2_with fail
      exact bodyPost_ret (v := .tuple #[.agg (frameC Wi.zero (.slice none 0 0)), .int .i64 72]) (by simp [results, Try.results14, go_sem, Wi.zero, hlt]) rfl ⟨.slice none 0 0, by rw [He.out, Hz.out _ He.out (by decide)], by rw [Hz.out _ He.out (by decide)]; exact OB.nil_ _ _, below_wb hd3.below (Nat.le_refl _)⟩
    have Hmk := Lib.hid (markOk_yes Hk3.out e1 e2)
    go_wp2_with fail
    refine (frameKind_calls _ (b2.toNat : Int)).out.mono ?_
    rintro e w4 ⟨rfl, hb4⟩
    have hd4 := hd3.step hb4
    clear hd3 hb4 hcell3' e1 e2
    cases e3 : Wi.kindOk (b2.toNat : Int)
    · have He := Lib.hid (show Wi.decErr l = 74 from decErr_kind Hl.out Hmk.out (by rw [Hk2.out]; exact e3))
      rw [← wb_self hd4.blk]
      have hlt := hd4.lt
      go_wp2_with fail
      exact bodyPost_ret (v := .tuple #[.agg (frameC Wi.zero (.slice none 0 0)), .int .i64 74]) (by simp [results, Try.results14, go_sem, Wi.zero, hlt]) rfl ⟨.slice none 0 0, by rw [He.out, Hz.out _ He.out (by decide)], by rw [Hz.out _ He.out (by decide)]; exact OB.nil_ _ _, below_wb hd4.below (Nat.le_refl _)⟩
    go_wp2_with fail
    refine (carries_calls _ (b2.toNat : Int) (Wi.lenAt l)).out.mono ?_
    rintro e w5 ⟨rfl, hb5⟩
    have hd5 := hd4.step hb5
    clear hd4 hb5
    have Hk3' : Hid (Wi.kindOk (Wi.kindAt l) = true) := by show _ = _; rw [Hk2.out]; exact e3
    clear e3
    cases e4 : Wi.carries (b2.toNat : Int) (Wi.lenAt l)
    · have He := Lib.hid (show Wi.decErr l = 75 from decErr_body Hl.out Hmk.out Hk3'.out (by rw [Hk2.out]; exact e4))
      rw [← wb_self hd5.blk]
      have hlt := hd5.lt
      go_wp2_with fail
      exact bodyPost_ret (v := .tuple #[.agg (frameC Wi.zero (.slice none 0 0)), .int .i64 75]) (by simp [results, Try.results14, go_sem, Wi.zero, hlt]) rfl ⟨.slice none 0 0, by rw [He.out, Hz.out _ He.out (by decide)], by rw [Hz.out _ He.out (by decide)]; exact OB.nil_ _ _, below_wb hd5.below (Nat.le_refl _)⟩
    have Hc4 : Hid (Wi.carries (Wi.kindAt l) (Wi.lenAt l) = true) := by show _ = _; rw [Hk2.out]; exact e4
    by_cases h5 : l.length < 26 + Wi.lenAt l
    · have He := Lib.hid (show Wi.decErr l = 71 from decErr_short Hl.out Hmk.out Hk3'.out Hc4.out h5)
      rw [← wb_self hd5.blk]
      have hlt := hd5.lt
      go_wp2_with fail
      exact bodyPost_ret (v := .tuple #[.agg (frameC Wi.zero (.slice none 0 0)), .int .i64 71]) (by simp [results, Try.results14, go_sem, Wi.zero, hlt]) rfl ⟨.slice none 0 0, by rw [He.out, Hz.out _ He.out (by decide)], by rw [Hz.out _ He.out (by decide)]; exact OB.nil_ _ _, below_wb hd5.below (Nat.le_refl _)⟩
    by_cases h6 : 26 + Wi.lenAt l < l.length
    · have He := Lib.hid (show Wi.decErr l = 76 from decErr_extra Hl.out Hmk.out Hk3'.out Hc4.out h5 h6)
      rw [← wb_self hd5.blk]
      have hlt := hd5.lt
      go_wp2_with fail
      exact bodyPost_ret (v := .tuple #[.agg (frameC Wi.zero (.slice none 0 0)), .int .i64 76]) (by simp [results, Try.results14, go_sem, Wi.zero, hlt]) rfl ⟨.slice none 0 0, by rw [He.out, Hz.out _ He.out (by decide)], by rw [Hz.out _ He.out (by decide)]; exact OB.nil_ _ _, below_wb hd5.below (Nat.le_refl _)⟩
    have hlenE : l.length = 26 + Wi.lenAt l := by omega
    have h5' : ¬ ((l.length : Int) < 26 + (Wi.lenAt l : Int)) := by omega
    have h6' : ¬ (26 + (Wi.lenAt l : Int) < (l.length : Int)) := by omega
    have HlenE := Lib.hid hlenE
    clear hlenE h5 h6 e4
    go_wp2_with fail
    refine (big_calls (hd5.rb hs22) hl22).out.mono ?_
    rintro e w6 ⟨rfl, hb6⟩
    have hd6 := hd5.step hb6
    clear hd5 hb6
    go_wp2_with fail
    refine (sumOf_calls (hd6.rb h) (by omega)).out.mono ?_
    rintro e w7 ⟨rfl, hb7⟩
    have hd7 := hd6.step hb7
    clear hd6 hb7
    cases e7 : (((Wi.unbe ((l.drop 22).take 4) : Nat) : Int) != ((Wi.sumBytes l : Nat) : Int))
    rotate_left
    · have He := Lib.hid (show Wi.decErr l = 73 from decErr_sum Hl.out Hmk.out Hk3'.out Hc4.out HlenE.out (fun h => (bne_iff_ne.1 e7) (by rw [h])))
      rw [← wb_self hd7.blk]
      have hlt := hd7.lt
      go_wp2_with fail
      exact bodyPost_ret (v := .tuple #[.agg (frameC Wi.zero (.slice none 0 0)), .int .i64 73]) (by simp [results, Try.results14, go_sem, Wi.zero, hlt]) rfl ⟨.slice none 0 0, by rw [He.out, Hz.out _ He.out (by decide)], by rw [Hz.out _ He.out (by decide)]; exact OB.nil_ _ _, below_wb hd7.below (Nat.le_refl _)⟩
    have He := Lib.hid (show Wi.decErr l = 0 from decErr_ok Hl.out Hmk.out Hk3'.out Hc4.out HlenE.out (by have h1 : ((Wi.unbe ((l.drop 22).take 4) : Nat) : Int) = ((Wi.sumBytes l : Nat) : Int) := (by simpa using e7); omega))
    have Hf : Hid (Wi.decFr l = Wi.readFr l) := by show _ = _; unfold Wi.decFr; rw [He.out, if_pos rfl]
    go_wp2_with fail
    have hw4 : IntKind.u32.wrap ((Wi.unbe ((l.drop 4).take 4) : Nat) : Int) = ((Wi.unbe ((l.drop 4).take 4) : Nat) : Int) := IntWalk.u32_in _ ⟨by omega, by have := sub4_lt l 4 (by omega); omega⟩
    have hw8 : IntKind.u32.wrap ((Wi.unbe ((l.drop 8).take 4) : Nat) : Int) = ((Wi.unbe ((l.drop 8).take 4) : Nat) : Int) := IntWalk.u32_in _ ⟨by omega, by have := sub4_lt l 8 (by omega); omega⟩
    have hw12 : IntKind.u32.wrap ((Wi.unbe ((l.drop 12).take 4) : Nat) : Int) = ((Wi.unbe ((l.drop 12).take 4) : Nat) : Int) := IntWalk.u32_in _ ⟨by omega, by have := sub4_lt l 12 (by omega); omega⟩
    have hw16 : IntKind.u32.wrap ((Wi.unbe ((l.drop 16).take 4) : Nat) : Int) = ((Wi.unbe ((l.drop 16).take 4) : Nat) : Int) := IntWalk.u32_in _ ⟨by omega, by have := sub4_lt l 16 (by omega); omega⟩
    have hq4 : ¬ c = 4 := by omega
    have hq8 : ¬ c = 8 := by omega
    have hq12 : ¬ c = 12 := by omega
    have hq16 : ¬ c = 16 := by omega
    have hc8 : (8 : Int) ≤ (c : Int) := by omega
    have hc12 : (12 : Int) ≤ (c : Int) := by omega
    have hc16 : (16 : Int) ≤ (c : Int) := by omega
    have hc20 : (20 : Int) ≤ (c : Int) := by omega
    have hl26 : 26 ≤ l.length := by omega
    clear e7
    refine Fl.wp_region_float (B := w.heap.size + 1) (W := w.alloc (.cells zeroFC 25)) 18 (by kernel_rfl) (by kernel_rfl) rfl rfl (fun a w => alloc_frame a w _ rfl) (by simp) (Below.drew hd7) ?_
    (repeat (first | (apply Fl.wpR_val rfl; (focus (intro w1 hR; obtain ⟨hc, hf⟩ := bcellB hR; (try go_simp); (try exact Eq.refl _); done)); (try simp only [Act.put, List.setIfInBounds_toArray, List.set_cons_succ, List.set_cons_zero])) | (apply Fl.wpR_call rfl; (focus (intro w1 hR; obtain ⟨hc, hf⟩ := bcellB hR; (try go_simp); (try exact And.intro rfl rfl); done)); exact (by first | omega | (simp; done) | (simp; omega)); (focus (intro w1 hR; first | exact (big_sub h (show DW w w1 from hR) hl26 hlc hcm _ (by decide)).out)); (try simp only [Act.put, List.setIfInBounds_toArray, List.set_cons_succ, List.set_cons_zero]))))
    refine Fl.wpR_nil (fun b0 w8 hd8 hB8 hlt8 => ?_)
    replace hd8 : DW w w8 := hd8
    have hlt2 := hd8.lt
    have hn02 : b0 ≠ w.heap.size := Nat.ne_of_gt hB8
    have hn20 := Ne.symm hn02
    have hng0 : b0 ≠ g := fun e => by omega
    have hzE := Nat.ne_of_lt hlt2
    rw [← wb_self hd8.blk]
    have HRf : Hid (Wi.readFr l = ⟨(b2.toNat : Int), Wi.unbe ((l.drop 4).take 4), Wi.unbe ((l.drop 8).take 4), Wi.unbe ((l.drop 12).take 4), Wi.unbe ((l.drop 16).take 4), l.drop 26⟩) := by
      show _ = _; unfold Wi.readFr; rw [Hk2.out]
    have hX : ∀ (cs : Array Value), RB ((w8.wb w.heap.size zeroFC 25).wb b0 cs 25) (.slice (some ⟨g, o, none⟩) l.length c) l := fun cs =>
      ((hd8.rb h).wb (fun _ e => hgne (by cases e; rfl)) _ _).wb (fun _ e => hng0 (by cases e; rfl)) _ _
    have hdb := hd8.below
    have Hd8 := Lib.hid hd8
    clear hd7 hd8 hcell2 hcell3 hs20 hs0 hs22 hw4 hw8 hw12 hw16 hwk hwl
    by_cases h0 : 0 < Wi.lenAt l
    · have h0I : (0 : Int) < (Wi.lenAt l : Int) := by omega
      have hc26 : ¬ c = 26 := by have := HlenE.out; omega
      go_wp2_with fail
      refine (clone_calls ((hX _).back 26 (c - 26) hl26 (by omega) (by omega))).mono ?_
      rintro e w9 ⟨v1, rfl, ho9, hb9⟩
      obtain ⟨p1, c1, rfl⟩ := ho9.rb.form
      obtain ⟨w10, rfl, hb10, hz10, hl10a, hl10b⟩ := behind_wb2 (B := w.heap.size) hb9 hlt2 hlt8 (Nat.le_refl _) (Nat.le_of_succ_le hB8) hn02
      rw [size_wb, size_wb] at ho9
      have Ho9 := Lib.hid ho9
      clear hX ho9 hb9
      go_wp2_with fail
      refine bodyPost_ret (v := .tuple #[.agg (frameC (Wi.readFr l) (.slice p1 (l.drop 26).length c1)), .int .i64 0]) ?_ rfl ⟨.slice p1 (l.drop 26).length c1, by rw [He.out, Hf.out], ?_, below_wb (below_wb (hdb.trans hb10) (Nat.le_refl _)) (Nat.le_of_succ_le hB8)⟩
      · rw [HRf.out]
        exact (by simp [results, Try.results14, go_sem, hl10a, hl10b, hn02, hn20])
      · rw [Hf.out]
        refine (Ho9.out.at_ fun g' e => ?_).more (Nat.le_of_lt hlt2)
        have hg' := (Ho9.out.lt g' e).1
        rw [heap_wb_ne (by omega), heap_wb_ne (by omega), heap_wb_ne (by omega), heap_wb_ne (by omega)]
    · have h0I : ¬ (0 : Int) < (Wi.lenAt l : Int) := by omega
      have hl26 : l.drop 26 = [] := List.drop_of_length_le (by have := HlenE.out; omega)
      have Hl26 := Lib.hid hl26
      clear hl26
      go_wp2_with fail
      refine bodyPost_ret (v := .tuple #[.agg (frameC (Wi.readFr l) (.slice none 0 0)), .int .i64 0]) ?_ rfl ⟨.slice none 0 0, by rw [He.out, Hf.out], by rw [Hf.out, HRf.out]; rw [Hl26.out]; exact OB.nil_ _ _, below_wb (below_wb hdb (Nat.le_refl _)) (Nat.le_of_succ_le hB8)⟩
      rw [HRf.out]
      exact (by simp [results, Try.results14, go_sem, hlt2, hlt8, hn02, hn20])
end Go.Proofs.Ytbgfoobcpacfeaa
