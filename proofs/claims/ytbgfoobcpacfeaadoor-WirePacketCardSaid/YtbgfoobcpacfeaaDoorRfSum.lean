/- The document's own reader: a digest. (Printed by wip/w7gen/mkrfsum.py.) -/
import Derived.Test.YtbgfoobcpacfeaaDoorPk8
import Derived.Test.YtbgfoobcpacfeaaDoorRfGens
namespace Go.Proofs.YtbgfoobcpacfeaaDoor
open Go.RowKit
set_option maxRecDepth 100000
set_option linter.unusedVariables false
set_option linter.unusedSimpArgs false

/-- 32 bytes lie there. -/
def S32 (w : World) (b : Nat) (s : List UInt8) : Prop := w.heap[b]? = some (.cells (s.map bv).toArray 31 (0, 0))
theorem s32_sz : (Tryd.prog.info? 31).map (·.size) = some 32 := by kernel_rfl
theorem alloc_s32 {ρ : Operand → Value} {o : Oper} (ho : o.op = .alloc 31) (w : World) : (execOp ρ o).run Tryd.prog w = .ok (.value (.pointer (some ⟨w.heap.size, 0, none⟩))) (w.alloc (.cells (Wi.zeros.map bv).toArray 31)) := by
  unfold execOp
  rw [ho]
  kernel_rfl
theorem S32.lt {w : World} {b : Nat} {s : List UInt8} (h : S32 w b s) : b < w.heap.size := heap_lt h
theorem S32.below {w w' : World} {b : Nat} {s : List UInt8} (h : S32 w b s) (hb : Below w.heap.size w w') : S32 w' b s := blk_below h hb
theorem S32.load {w : World} {b : Nat} {s : List UInt8} (h : S32 w b s) (hs : s.length = 32) : (Instr.loadAt 31 (.pointer (some ⟨b, 0, none⟩))).run Tryd.prog w = .ok (.agg (s.map bv).toArray) w :=
  run_loadAt_mid w b 0 _ (s.map bv) _ (fun j u hu => by rw [Nat.zero_add, has_cell h]; simpa using hu) sm_t rfl (by rw [sm_i, List.length_map, hs])
theorem S32.set {w : World} {b : Nat} {s : List UInt8} (h : S32 w b s) (i : Nat) (x : UInt8) : S32 (w.setCells b i [bv x]) b (s.set i x) := by
  have := setCells_heap [bv x] i w _ h
  rw [setAll, setAll, ← List.map_set] at this
  exact this
theorem S32.over {w : World} {b : Nat} {s : List UInt8} (h : S32 w b s) (t : List UInt8) (hs : s.length = t.length) : S32 (w.setCells b 0 (t.map bv)) b t := by
  have := setCells_heap (t.map bv) 0 w _ h
  have e := setAll_over (t.map bv) [] (s.map bv) [] (by simpa using hs)
  simp only [List.nil_append, List.append_nil, List.length_nil] at e
  rw [e] at this
  exact this
theorem bvs_one (s : List UInt8) : ∀ u ∈ s.map bv, u.oneCell' = true := by
  intro u hu
  obtain ⟨x, _, rfl⟩ := List.mem_map.1 hu
  rfl

/-- What the document's 'sum' answers. -/
def RSumPost (w : World) (r : Nat) (bs : Value) (len : Nat) (res : Wi.Res (List UInt8)) (e : Ending) (w' : World) : Prop :=
  match res with
  | .ok s rest => s.length = 32 ∧ e = .returned (.tuple #[.agg (s.map bv).toArray, .bool true]) ∧ RRd w' r bs (len - rest.length) ∧ w.grownBy w' (some r)
  | .bad rest => (∃ s : List UInt8, s.length = 32 ∧ e = .returned (.tuple #[.agg (s.map bv).toArray, .bool false])) ∧ RRd w' r bs (len - rest.length) ∧ w.grownBy w' (some r)
/-- Its loop, behind i bytes. -/
def RSumI (w : World) (r : Nat) (bs : Value) (l : List UInt8) (z : Bool) (at_ : Nat) (i : Nat) (a : Act) (w' : World) : Prop :=
  ∃ s : List UInt8, (∃ U : Nat → Value, a = ⟨#[.pointer (some ⟨r, 0, none⟩), .bool z, U 2, U 3, .pointer (some ⟨w.heap.size, 0, none⟩), .bool false, .pointer (some ⟨w.heap.size + 1, 0, none⟩), .int .i64 i, U 8, U 9, U 10, U 11, U 12, U 13, U 14, U 15, U 16, U 17, U 18, U 19, U 20, U 21, U 22, U 23, U 24, U 25, U 26, U 27, U 28, U 29, U 30, U 31, U 32, U 33, U 34, U 35, U 36, U 37, U 38, U 39, U 40, U 41, U 42, U 43, U 44, U 45, U 46, U 47, U 48, U 49, U 50, U 51, U 52, U 53, U 54, U 55, U 56, U 57, U 58], []⟩) ∧
    s.length = 32 ∧ at_ + i ≤ l.length ∧ Wi.rdSum z 32 (l.drop at_) = Wi.preS (s.take i) (Wi.rdSum z (32 - i) (l.drop (at_ + i))) ∧ S32 w' (w.heap.size + 1) s ∧ S32 w' w.heap.size Wi.zeros ∧ RRd w' r bs (at_ + i) ∧ w.grownBy w' (some r)

set_option maxHeartbeats 16000000 in
theorem rsum_calls {w : World} {r g o c at_ : Nat} {l : List UInt8} (z : Bool) (hR : RRd w r (.slice (some ⟨g, o, none⟩) l.length c) at_) (hr : RB w (.slice (some ⟨g, o, none⟩) l.length c) l) (hgr : g ≠ r) (hat : at_ ≤ l.length) (hl : l.length ≤ 140737488355328) :
    Calls Tryd.prog 93 #[.pointer (some ⟨r, 0, none⟩), .bool z] w (RSumPost w r (.slice (some ⟨g, o, none⟩) l.length c) l.length (Wi.rdSum z 32 (l.drop at_))) := by
  have hrl := hR.lt
  go_enter Tryd.func93, Tryd.ntmps93
  go_upto_region 0 with fail
  rename_i hnext
  refine wp_region_lit ?_
  refine Og.st_start (n := 59) rfl fun aF hF => ?_
  refine Og.st_val (w' := w.alloc (.cells (Wi.zeros.map bv).toArray 31)) (.pointer (some ⟨w.heap.size, 0, none⟩)) hF rfl rfl (by decide) (alloc_s32 rfl w) fun aF hF => ?_
  have hs1 : (w.alloc (.cells (Wi.zeros.map bv).toArray 31)).heap.size = w.heap.size + 1 := by simp
  have hZ1 : S32 (w.alloc (.cells (Wi.zeros.map bv).toArray 31)) w.heap.size Wi.zeros := heap_new w _ _ rfl
  have hb1 := below_alloc1 w (.cells (Wi.zeros.map bv).toArray 31)
  generalize w.alloc (.cells (Wi.zeros.map bv).toArray 31) = w1 at *
  refine Og.st_same (.bool false) hF rfl rfl (by decide) (by kernel_rfl) fun aF hF => ?_
  refine wpList_nil ?_
  obtain ⟨U, rfl⟩ := Og.Fr.lit_ex hF (fun U => ⟨#[.pointer (some ⟨r, 0, none⟩), .bool z, U 2, U 3, .pointer (some ⟨w.heap.size, 0, none⟩), .bool false, U 6, U 7, U 8, U 9, U 10, U 11, U 12, U 13, U 14, U 15, U 16, U 17, U 18, U 19, U 20, U 21, U 22, U 23, U 24, U 25, U 26, U 27, U 28, U 29, U 30, U 31, U 32, U 33, U 34, U 35, U 36, U 37, U 38, U 39, U 40, U 41, U 42, U 43, U 44, U 45, U 46, U 47, U 48, U 49, U 50, U 51, U 52, U 53, U 54, U 55, U 56, U 57, U 58], []⟩) (by kernel_rfl)
  clear hF
  refine hnext _ _ ?_
  clear hnext
  go_upto_region 1 with fail
  rename_i hnext
  refine wp_region_lit ?_
  refine Og.st_start (n := 59) rfl fun aF hF => ?_
  refine Og.st_val (w' := w1.alloc (.cells (Wi.zeros.map bv).toArray 31)) (.pointer (some ⟨w1.heap.size, 0, none⟩)) hF rfl rfl (by decide) (alloc_s32 rfl w1) fun aF hF => ?_
  have hS2 : S32 (w1.alloc (.cells (Wi.zeros.map bv).toArray 31)) w1.heap.size Wi.zeros := heap_new w1 _ _ rfl
  have hb2 := below_alloc1 w1 (.cells (Wi.zeros.map bv).toArray 31)
  generalize w1.alloc (.cells (Wi.zeros.map bv).toArray 31) = w2 at *
  rw [hs1] at *
  have hZ2 : S32 w2 w.heap.size Wi.zeros := (hb2.block _ (by omega)).trans hZ1
  have hb02 := hb1.trans (hb2.mono (Nat.le_succ _))
  have hR2 := hR.below hb02
  have hg2 : w.grownBy w2 (some r) := below_grown hb02
  refine wpList_nil ?_
  obtain ⟨U, rfl⟩ := Og.Fr.lit_ex hF (fun U => ⟨#[.pointer (some ⟨r, 0, none⟩), .bool z, U 2, U 3, .pointer (some ⟨w.heap.size, 0, none⟩), .bool false, .pointer (some ⟨w.heap.size + 1, 0, none⟩), U 7, U 8, U 9, U 10, U 11, U 12, U 13, U 14, U 15, U 16, U 17, U 18, U 19, U 20, U 21, U 22, U 23, U 24, U 25, U 26, U 27, U 28, U 29, U 30, U 31, U 32, U 33, U 34, U 35, U 36, U 37, U 38, U 39, U 40, U 41, U 42, U 43, U 44, U 45, U 46, U 47, U 48, U 49, U 50, U 51, U 52, U 53, U 54, U 55, U 56, U 57, U 58], []⟩) (by kernel_rfl)
  clear hF hb1 hb2 hb02 hZ1 w1 hs1
  refine hnext _ _ ?_
  clear hnext
  go_wp2_with fail
  refine wp_loop_count (RSumI w r (.slice (some ⟨g, o, none⟩) l.length c) l z at_) 32 ⟨Wi.zeros, exU (fun U => ⟨#[.pointer (some ⟨r, 0, none⟩), .bool z, U 2, U 3, .pointer (some ⟨w.heap.size, 0, none⟩), .bool false, .pointer (some ⟨w.heap.size + 1, 0, none⟩), .int .i64 0, U 8, U 9, U 10, U 11, U 12, U 13, U 14, U 15, U 16, U 17, U 18, U 19, U 20, U 21, U 22, U 23, U 24, U 25, U 26, U 27, U 28, U 29, U 30, U 31, U 32, U 33, U 34, U 35, U 36, U 37, U 38, U 39, U 40, U 41, U 42, U 43, U 44, U 45, U 46, U 47, U 48, U 49, U 50, U 51, U 52, U 53, U 54, U 55, U 56, U 57, U 58], []⟩) rfl, rfl, hat, by rw [List.take_zero, Wi.preS_nil]; rfl, hS2, hZ2, hR2, hg2⟩ ?_ ?_
  · rintro i a w' hi ⟨s, ⟨U, rfl⟩, hs, hat', heq, hS', hZ', hR', hg'⟩
    clear hS2 hZ2 hR2 hg2
    have h0 := hR'.c0
    have h1 := hR'.c1
    have hrlt := hR'.lt
    have hi0 : (0 : Int) ≤ (i : Int) := Int.natCast_nonneg i
    have hi32 : (i : Int) < 32 := by omega
    have hw6 : IntKind.i64.wrap ((i : Int) + 1) = (i : Int) + 1 := IntWalk.i64_in _ ⟨by omega, by omega⟩
    have Hi := Lib.hid hi
    have Hs := Lib.hid hs
    have Hi32 := Lib.hid (show i < s.length by omega)
    obtain ⟨k, hk⟩ : ∃ k, 32 - i = k + 1 := ⟨31 - i, by omega⟩
    have Hk := Lib.hid hk
    have Hk2 := Lib.hid (show k = 32 - (i + 1) by omega)
    have Hq := Lib.hid heq
    clear heq hs hi hk
    by_cases he : at_ + i = l.length
    · have hnil : l.drop (at_ + i) = [] := List.drop_of_length_le (by omega)
      rw [hnil] at Hq
      have Hr := Lib.hid hR'
      rw [he] at h1 Hr
      have hge : (l.length : Int) ≤ (l.length : Int) := Int.le_refl _
      clear hnil hR'
      go_wp2_with fail
      refine wp_region_hereW (by kernel_rfl) (by kernel_rfl) ?_
      ((iterate 11 (first | (apply WR.val rfl; (focus (intro w1 hR; obtain ⟨hc, hf⟩ := bcellB hR; (try go_simp); (try exact Eq.refl _); done)); (try simp only [Act.put, List.setIfInBounds_toArray, List.set_cons_succ, List.set_cons_zero])) | (apply WR.call rfl; (focus (intro w1 hR; obtain ⟨hc, hf⟩ := bcellB hR; (try go_simp); (try exact And.intro rfl rfl); done)); (focus (intro w1 hR; first | fail)); (try simp only [Act.put, List.setIfInBounds_toArray, List.set_cons_succ, List.set_cons_zero])))); (iterate 14 (refine WR.pass ?_ ?_; (focus kernel_rfl); (try simp only [Act.put, List.setIfInBounds_toArray, List.set_cons_succ, List.set_cons_zero]))); (iterate 1 (first | (apply WR.val rfl; (focus (intro w1 hR; obtain ⟨hc, hf⟩ := bcellB hR; (try go_simp); (try exact Eq.refl _); done)); (try simp only [Act.put, List.setIfInBounds_toArray, List.set_cons_succ, List.set_cons_zero])) | (apply WR.call rfl; (focus (intro w1 hR; obtain ⟨hc, hf⟩ := bcellB hR; (try go_simp); (try exact And.intro rfl rfl); done)); (focus (intro w1 hR; first | fail)); (try simp only [Act.put, List.setIfInBounds_toArray, List.set_cons_succ, List.set_cons_zero])))))
      refine WR.nil ?_
      intro w2 hb2
      have hS2 := hS'.below hb2
      have hZ2 := hZ'.below hb2
      have hR2 := Hr.out.below hb2
      have hg2 := World.grownBy.trans hg' (below_grown (r := some r) hb2)
      go_upto_region 6 with fail
      rename_i hnext
      refine wp_region_lit ?_
      refine Og.st_start (n := 59) rfl fun aF hF => ?_
      refine Og.st_same (.agg (s.map bv).toArray) hF rfl rfl (by decide) (Og.exec_load rfl (hS2.load Hs.out)) fun aF hF => ?_
      refine Og.st_skip (w' := w2.setCells w.heap.size 0 (s.map bv)) hF rfl rfl
        (exec_store (o := 0) (vs := s.map bv) (cs := Wi.zeros.map bv) rfl rfl rfl hZ2 (by rw [List.length_map, List.length_map, Hs.out]; decide) (by rw [List.length_map, Hs.out]; exact s32_sz) (bvs_one s)) fun aF hF => ?_
      have hgs := setCells_grown w2 w.heap.size 0 (s.map bv)
      have hZ3 := hZ2.over s (by rw [Hs.out]; rfl)
      have hR3 := hR2.grown hgs (fun e => by omega)
      have hg3 := grown_own hg2 hgs (Nat.le_refl _)
      generalize w2.setCells w.heap.size 0 (s.map bv) = w3 at *
      refine Og.st_same (.bool false) hF rfl rfl (by decide) (by kernel_rfl) fun aF hF => ?_
      refine wpList_nil ?_
      refine hnext _ _ (wp_ret ?_)
      (try simp only [Exit.inBlock, Exit.then, Exit.inLoop])
      refine bodyPost_ret (results_cellTmp rfl (hF.2.2 4) (by simpa [Instr.loadAt, Instr.sureAddr] using hZ3.load Hs.out)) hF.1 ?_
      rw [hF.2.2 5]
      have hq := Hq.out
      rw [Hk.out, Wi.rdSum, Wi.preS] at hq
      rw [hq]
      exact ⟨⟨s, Hs.out, rfl⟩, hR3, hg3⟩
    · obtain ⟨b, hb⟩ : ∃ b, l[at_ + i]? = some b := ⟨l[at_ + i], List.getElem?_eq_getElem (by omega)⟩
      have hcell0 := cell_of_rb hr (at_ + i) b hb
      have hg0 : g < w.heap.size := cell_lt hcell0
      have hgw : g < w'.heap.size := Nat.lt_of_lt_of_le hg0 hg'.size
      have hcell : w'.cell? ⟨g, o + (at_ + i), none⟩ = some (bv b) := (World.cell?_of_block (hg'.block g hg0 (fun e => hgr (by injection e)))).trans hcell0
      have hltI : ((at_ + i : Nat) : Int) < (l.length : Int) := by exact_mod_cast (Nat.lt_of_le_of_ne hat' he)
      have hnge : ¬ (l.length : Int) ≤ ((at_ + i : Nat) : Int) := by omega
      have h0I : (0 : Int) ≤ ((at_ + i : Nat) : Int) := Int.natCast_nonneg _
      obtain ⟨pl, hpl⟩ : ∃ pl, pl = at_ + i := ⟨_, rfl⟩
      rw [← hpl] at hcell h1 hnge hltI h0I hR' he hat' Hq hb
      have Hpl := Lib.hid hpl
      have Hple := Lib.hid hat'
      have Hdrop := Lib.hid (show l.drop pl = b :: l.drop (pl + 1) from by
        rw [List.drop_eq_getElem_cons (by omega)]
        rw [List.getElem?_eq_getElem (by omega)] at hb
        injection hb with hb'
        rw [hb'])
      have hdec : decide (l.length ≤ pl) = false := decide_eq_false (by omega)
      clear hpl hb he hat' hcell0 hg0
      cases z
      · go_wp2_with fail
        refine wp_region_hereW (by kernel_rfl) (by kernel_rfl) ?_
        ((iterate 11 (first | (apply WR.val rfl; (focus (intro w1 hR; obtain ⟨hc, hf⟩ := bcellB hR; (try go_simp); (try exact Eq.refl _); done)); (try simp only [Act.put, List.setIfInBounds_toArray, List.set_cons_succ, List.set_cons_zero])) | (apply WR.call rfl; (focus (intro w1 hR; obtain ⟨hc, hf⟩ := bcellB hR; (try go_simp); (try exact And.intro rfl rfl); done)); (focus (intro w1 hR; first | fail)); (try simp only [Act.put, List.setIfInBounds_toArray, List.set_cons_succ, List.set_cons_zero])))); (iterate 2 (first | (apply WR.val_want; (focus kernel_rfl); (focus (intro w1 hR; obtain ⟨hc, hf⟩ := bcellB hR; (try go_simp); (try exact Eq.refl _); done)); (try simp only [Act.put, List.setIfInBounds_toArray, List.set_cons_succ, List.set_cons_zero])) | (apply WR.call_want; (focus kernel_rfl); (focus (intro w1 hR; obtain ⟨hc, hf⟩ := bcellB hR; (try go_simp); (try exact And.intro rfl rfl); done)); (focus (intro w1 hR; first | fail)); (try simp only [Act.put, List.setIfInBounds_toArray, List.set_cons_succ, List.set_cons_zero])))); (iterate 11 (refine WR.pass ?_ ?_; (focus kernel_rfl); (try simp only [Act.put, List.setIfInBounds_toArray, List.set_cons_succ, List.set_cons_zero]))); (iterate 1 (first | (apply WR.val_want; (focus kernel_rfl); (focus (intro w1 hR; obtain ⟨hc, hf⟩ := bcellB hR; (try go_simp); (try exact Eq.refl _); done)); (try simp only [Act.put, List.setIfInBounds_toArray, List.set_cons_succ, List.set_cons_zero])) | (apply WR.call_want; (focus kernel_rfl); (focus (intro w1 hR; obtain ⟨hc, hf⟩ := bcellB hR; (try go_simp); (try exact And.intro rfl rfl); done)); (focus (intro w1 hR; first | fail)); (try simp only [Act.put, List.setIfInBounds_toArray, List.set_cons_succ, List.set_cons_zero])))); (iterate 1 (first | (apply WR.val rfl; (focus (intro w1 hR; obtain ⟨hc, hf⟩ := bcellB hR; (try go_simp); (try exact Eq.refl _); done)); (try simp only [Act.put, List.setIfInBounds_toArray, List.set_cons_succ, List.set_cons_zero])) | (apply WR.call rfl; (focus (intro w1 hR; obtain ⟨hc, hf⟩ := bcellB hR; (try go_simp); (try exact And.intro rfl rfl); done)); (focus (intro w1 hR; first | fail)); (try simp only [Act.put, List.setIfInBounds_toArray, List.set_cons_succ, List.set_cons_zero])))))
        refine WR.nil ?_
        intro w2 hb2
        have hR2 := hR'.below hb2
        have hS2 := hS'.below hb2
        have hZ2 := hZ'.below hb2
        have hg2 := World.grownBy.trans hg' (below_grown (r := some r) hb2)
        have h02 := hR2.c0
        have h12 := hR2.c1
        have hrlt2 := hR2.lt
        have hslt2 := hS2.lt
        have hcell2 := ((bcellB hb2).1 g (o + pl) hgw).trans hcell
        have hgw2 : g < w2.heap.size := Nat.lt_of_lt_of_le hgw hb2.size
        clear h0 h1 hrlt hcell hb2 hR' hS' hZ' hg'
        go_wp2_with fail
        refine wp_region_R_tail (Below w2.heap.size w2) 12 (by kernel_rfl) (by kernel_rfl) ⟨rfl, rfl, rfl, Nat.le_refl _, fun _ _ => rfl⟩ ?_
        (repeat (first | (apply wpR_pass rfl; (try simp only [Act.put, List.setIfInBounds_toArray, List.set_cons_succ, List.set_cons_zero])) | (apply wpR_val rfl; (focus (intro w1 hR; obtain ⟨hc, hf⟩ := bcellB hR; (try go_simp); (try exact Eq.refl _); done)); (try simp only [Act.put, List.setIfInBounds_toArray, List.set_cons_succ, List.set_cons_zero])) | (apply wpR_call rfl; (focus (intro w1 hR; obtain ⟨hc, hf⟩ := bcellB hR; (try go_simp); (try exact And.intro rfl rfl); done)); (focus (intro w1 hR; first | exact ().at_ (by first | omega | (simp; done) | (simp; omega)) hR)); (try simp only [Act.put, List.setIfInBounds_toArray, List.set_cons_succ, List.set_cons_zero])) | (apply wpR_val_want rfl; (focus (intro w1 hR; obtain ⟨hc, hf⟩ := bcellB hR; (try go_simp); (try exact Eq.refl _); done)); (try simp only [Act.put, List.setIfInBounds_toArray, List.set_cons_succ, List.set_cons_zero])) | (apply wpR_call_want rfl; (focus (intro w1 hR; obtain ⟨hc, hf⟩ := bcellB hR; (try go_simp); (try exact And.intro rfl rfl); done)); (focus (intro w1 hR; first | exact ().at_ (by first | omega | (simp; done) | (simp; omega)) hR)); (try simp only [Act.put, List.setIfInBounds_toArray, List.set_cons_succ, List.set_cons_zero]))))
        refine wpR_nil ?_
        intro w3 hb3
        have hR3 := hR2.below hb3
        have hS3 := hS2.below hb3
        have hZ3 := hZ2.below hb3
        have hg3 := World.grownBy.trans hg2 (below_grown (r := some r) hb3)
        refine wpList_store_cells (w.heap.size + 1) i [bv b] (s.map bv) rfl rfl rfl rfl hS3 (by rw [List.length_map, Hs.out]; have := Hi.out; simp; omega) (by kernel_rfl) (by intro u hu; simp at hu; subst hu; rfl) ?_
        refine wpList_nil ?_
        have hgs := setCells_grown w3 (w.heap.size + 1) i [bv b]
        have hS4 := hS3.set i b
        have hZ4 : S32 (w3.setCells (w.heap.size + 1) i [bv b]) w.heap.size Wi.zeros := blk_grown hZ3 hgs (fun e => by injection e; omega)
        have hR4 := hR3.grown hgs (fun e => by omega)
        have hg4 := grown_own hg3 hgs (by omega)
        generalize w3.setCells (w.heap.size + 1) i [bv b] = w4 at *
        have h04 := hR4.c0
        have h14 := hR4.c1
        have hrlt4 := hR4.lt
        have hfz : w4.frozen? ⟨r, 1, none⟩ = false := by simp [World.frozen?, show w4.heap[r]? = _ from hR4]
        have hw5 : IntKind.i64.wrap ((pl : Int) + 1) = ((pl + 1 : Nat) : Int) := by rw [IntWalk.i64_in _ ⟨by omega, by omega⟩]; rfl
        clear hb3 hR3 hS3 hZ3 hS2 hZ2 hR2 h02 h12 hrlt2 hcell2
        go_wp2_with fail
        refine ⟨s.set i b, exU (fun U => ⟨#[.pointer (some ⟨r, 0, none⟩), .bool false, U 2, U 3, .pointer (some ⟨w.heap.size, 0, none⟩), .bool false, .pointer (some ⟨w.heap.size + 1, 0, none⟩), .int .i64 (i + 1 : Nat), U 8, U 9, U 10, U 11, U 12, U 13, U 14, U 15, U 16, U 17, U 18, U 19, U 20, U 21, U 22, U 23, U 24, U 25, U 26, U 27, U 28, U 29, U 30, U 31, U 32, U 33, U 34, U 35, U 36, U 37, U 38, U 39, U 40, U 41, U 42, U 43, U 44, U 45, U 46, U 47, U 48, U 49, U 50, U 51, U 52, U 53, U 54, U 55, U 56, U 57, U 58], []⟩) rfl, by rw [List.length_set]; exact Hs.out, ?_, ?_, ?_, ?_, ?_, ?_⟩
        · have := Hpl.out; omega
        · have hq := Hq.out
          rw [Hk.out, Hdrop.out, Wi.preS_step Hi32.out (by rfl)] at hq
          rw [hq, ← Hk2.out, show at_ + (i + 1) = pl + 1 by have := Hpl.out; omega]
        · exact blk_grown hS4 (setCells_grown w4 r 1 [.int .i64 ((pl + 1 : Nat) : Int)]) (fun e => by injection e; omega)
        · exact blk_grown hZ4 (setCells_grown w4 r 1 [.int .i64 ((pl + 1 : Nat) : Int)]) (fun e => by injection e; omega)
        · rw [show at_ + (i + 1) = pl + 1 by have := Hpl.out; omega]
          exact hR4.set (pl + 1)
        · exact World.grownBy.trans hg4 (setCells_grown w4 r 1 [.int .i64 ((pl + 1 : Nat) : Int)])
      · cases hz : ((b.toNat : Int) != 0)
        · have hb0 : (b != 0) = false := by
              have h0 : b.toNat = 0 := by simpa using hz
              have : b = 0 := by
                apply UInt8.toNat_inj.1
                rw [h0]; rfl
              subst this; rfl
          go_wp2_with fail
          refine wp_region_hereW (by kernel_rfl) (by kernel_rfl) ?_
          ((iterate 11 (first | (apply WR.val rfl; (focus (intro w1 hR; obtain ⟨hc, hf⟩ := bcellB hR; (try go_simp); (try exact Eq.refl _); done)); (try simp only [Act.put, List.setIfInBounds_toArray, List.set_cons_succ, List.set_cons_zero])) | (apply WR.call rfl; (focus (intro w1 hR; obtain ⟨hc, hf⟩ := bcellB hR; (try go_simp); (try exact And.intro rfl rfl); done)); (focus (intro w1 hR; first | fail)); (try simp only [Act.put, List.setIfInBounds_toArray, List.set_cons_succ, List.set_cons_zero])))); (iterate 14 (first | (apply WR.val_want; (focus kernel_rfl); (focus (intro w1 hR; obtain ⟨hc, hf⟩ := bcellB hR; (try go_simp); (try exact Eq.refl _); done)); (try simp only [Act.put, List.setIfInBounds_toArray, List.set_cons_succ, List.set_cons_zero])) | (apply WR.call_want; (focus kernel_rfl); (focus (intro w1 hR; obtain ⟨hc, hf⟩ := bcellB hR; (try go_simp); (try exact And.intro rfl rfl); done)); (focus (intro w1 hR; first | fail)); (try simp only [Act.put, List.setIfInBounds_toArray, List.set_cons_succ, List.set_cons_zero])))); (iterate 1 (first | (apply WR.val rfl; (focus (intro w1 hR; obtain ⟨hc, hf⟩ := bcellB hR; (try go_simp); (try exact Eq.refl _); done)); (try simp only [Act.put, List.setIfInBounds_toArray, List.set_cons_succ, List.set_cons_zero])) | (apply WR.call rfl; (focus (intro w1 hR; obtain ⟨hc, hf⟩ := bcellB hR; (try go_simp); (try exact And.intro rfl rfl); done)); (focus (intro w1 hR; first | fail)); (try simp only [Act.put, List.setIfInBounds_toArray, List.set_cons_succ, List.set_cons_zero])))))
          refine WR.nil ?_
          intro w2 hb2
          have hR2 := hR'.below hb2
          have hS2 := hS'.below hb2
          have hZ2 := hZ'.below hb2
          have hg2 := World.grownBy.trans hg' (below_grown (r := some r) hb2)
          have h02 := hR2.c0
          have h12 := hR2.c1
          have hrlt2 := hR2.lt
          have hslt2 := hS2.lt
          have hcell2 := ((bcellB hb2).1 g (o + pl) hgw).trans hcell
          have hgw2 : g < w2.heap.size := Nat.lt_of_lt_of_le hgw hb2.size
          clear h0 h1 hrlt hcell hb2 hR' hS' hZ' hg'
          go_wp2_with fail
          refine wp_region_R_tail (Below w2.heap.size w2) 12 (by kernel_rfl) (by kernel_rfl) ⟨rfl, rfl, rfl, Nat.le_refl _, fun _ _ => rfl⟩ ?_
          (repeat (first | (apply wpR_pass rfl; (try simp only [Act.put, List.setIfInBounds_toArray, List.set_cons_succ, List.set_cons_zero])) | (apply wpR_val rfl; (focus (intro w1 hR; obtain ⟨hc, hf⟩ := bcellB hR; (try go_simp); (try exact Eq.refl _); done)); (try simp only [Act.put, List.setIfInBounds_toArray, List.set_cons_succ, List.set_cons_zero])) | (apply wpR_call rfl; (focus (intro w1 hR; obtain ⟨hc, hf⟩ := bcellB hR; (try go_simp); (try exact And.intro rfl rfl); done)); (focus (intro w1 hR; first | exact ().at_ (by first | omega | (simp; done) | (simp; omega)) hR)); (try simp only [Act.put, List.setIfInBounds_toArray, List.set_cons_succ, List.set_cons_zero])) | (apply wpR_val_want rfl; (focus (intro w1 hR; obtain ⟨hc, hf⟩ := bcellB hR; (try go_simp); (try exact Eq.refl _); done)); (try simp only [Act.put, List.setIfInBounds_toArray, List.set_cons_succ, List.set_cons_zero])) | (apply wpR_call_want rfl; (focus (intro w1 hR; obtain ⟨hc, hf⟩ := bcellB hR; (try go_simp); (try exact And.intro rfl rfl); done)); (focus (intro w1 hR; first | exact ().at_ (by first | omega | (simp; done) | (simp; omega)) hR)); (try simp only [Act.put, List.setIfInBounds_toArray, List.set_cons_succ, List.set_cons_zero]))))
          refine wpR_nil ?_
          intro w3 hb3
          have hR3 := hR2.below hb3
          have hS3 := hS2.below hb3
          have hZ3 := hZ2.below hb3
          have hg3 := World.grownBy.trans hg2 (below_grown (r := some r) hb3)
          refine wpList_store_cells (w.heap.size + 1) i [bv b] (s.map bv) rfl rfl rfl rfl hS3 (by rw [List.length_map, Hs.out]; have := Hi.out; simp; omega) (by kernel_rfl) (by intro u hu; simp at hu; subst hu; rfl) ?_
          refine wpList_nil ?_
          have hgs := setCells_grown w3 (w.heap.size + 1) i [bv b]
          have hS4 := hS3.set i b
          have hZ4 : S32 (w3.setCells (w.heap.size + 1) i [bv b]) w.heap.size Wi.zeros := blk_grown hZ3 hgs (fun e => by injection e; omega)
          have hR4 := hR3.grown hgs (fun e => by omega)
          have hg4 := grown_own hg3 hgs (by omega)
          generalize w3.setCells (w.heap.size + 1) i [bv b] = w4 at *
          have h04 := hR4.c0
          have h14 := hR4.c1
          have hrlt4 := hR4.lt
          have hfz : w4.frozen? ⟨r, 1, none⟩ = false := by simp [World.frozen?, show w4.heap[r]? = _ from hR4]
          have hw5 : IntKind.i64.wrap ((pl : Int) + 1) = ((pl + 1 : Nat) : Int) := by rw [IntWalk.i64_in _ ⟨by omega, by omega⟩]; rfl
          clear hb3 hR3 hS3 hZ3 hS2 hZ2 hR2 h02 h12 hrlt2 hcell2
          go_wp2_with fail
          refine ⟨s.set i b, exU (fun U => ⟨#[.pointer (some ⟨r, 0, none⟩), .bool true, U 2, U 3, .pointer (some ⟨w.heap.size, 0, none⟩), .bool false, .pointer (some ⟨w.heap.size + 1, 0, none⟩), .int .i64 (i + 1 : Nat), U 8, U 9, U 10, U 11, U 12, U 13, U 14, U 15, U 16, U 17, U 18, U 19, U 20, U 21, U 22, U 23, U 24, U 25, U 26, U 27, U 28, U 29, U 30, U 31, U 32, U 33, U 34, U 35, U 36, U 37, U 38, U 39, U 40, U 41, U 42, U 43, U 44, U 45, U 46, U 47, U 48, U 49, U 50, U 51, U 52, U 53, U 54, U 55, U 56, U 57, U 58], []⟩) rfl, by rw [List.length_set]; exact Hs.out, ?_, ?_, ?_, ?_, ?_, ?_⟩
          · have := Hpl.out; omega
          · have hq := Hq.out
            rw [Hk.out, Hdrop.out, Wi.preS_step Hi32.out (by rw [hb0]; rfl)] at hq
            rw [hq, ← Hk2.out, show at_ + (i + 1) = pl + 1 by have := Hpl.out; omega]
          · exact blk_grown hS4 (setCells_grown w4 r 1 [.int .i64 ((pl + 1 : Nat) : Int)]) (fun e => by injection e; omega)
          · exact blk_grown hZ4 (setCells_grown w4 r 1 [.int .i64 ((pl + 1 : Nat) : Int)]) (fun e => by injection e; omega)
          · rw [show at_ + (i + 1) = pl + 1 by have := Hpl.out; omega]
            exact hR4.set (pl + 1)
          · exact World.grownBy.trans hg4 (setCells_grown w4 r 1 [.int .i64 ((pl + 1 : Nat) : Int)])
        · go_wp2_with fail
          refine wp_region_hereW (by kernel_rfl) (by kernel_rfl) ?_
          ((iterate 11 (first | (apply WR.val rfl; (focus (intro w1 hR; obtain ⟨hc, hf⟩ := bcellB hR; (try go_simp); (try exact Eq.refl _); done)); (try simp only [Act.put, List.setIfInBounds_toArray, List.set_cons_succ, List.set_cons_zero])) | (apply WR.call rfl; (focus (intro w1 hR; obtain ⟨hc, hf⟩ := bcellB hR; (try go_simp); (try exact And.intro rfl rfl); done)); (focus (intro w1 hR; first | fail)); (try simp only [Act.put, List.setIfInBounds_toArray, List.set_cons_succ, List.set_cons_zero])))); (iterate 14 (first | (apply WR.val_want; (focus kernel_rfl); (focus (intro w1 hR; obtain ⟨hc, hf⟩ := bcellB hR; (try go_simp); (try exact Eq.refl _); done)); (try simp only [Act.put, List.setIfInBounds_toArray, List.set_cons_succ, List.set_cons_zero])) | (apply WR.call_want; (focus kernel_rfl); (focus (intro w1 hR; obtain ⟨hc, hf⟩ := bcellB hR; (try go_simp); (try exact And.intro rfl rfl); done)); (focus (intro w1 hR; first | fail)); (try simp only [Act.put, List.setIfInBounds_toArray, List.set_cons_succ, List.set_cons_zero])))); (iterate 1 (first | (apply WR.val rfl; (focus (intro w1 hR; obtain ⟨hc, hf⟩ := bcellB hR; (try go_simp); (try exact Eq.refl _); done)); (try simp only [Act.put, List.setIfInBounds_toArray, List.set_cons_succ, List.set_cons_zero])) | (apply WR.call rfl; (focus (intro w1 hR; obtain ⟨hc, hf⟩ := bcellB hR; (try go_simp); (try exact And.intro rfl rfl); done)); (focus (intro w1 hR; first | fail)); (try simp only [Act.put, List.setIfInBounds_toArray, List.set_cons_succ, List.set_cons_zero])))))
          refine WR.nil ?_
          intro w2 hb2
          have hS2 := hS'.below hb2
          have hZ2 := hZ'.below hb2
          have hR2 := hR'.below hb2
          have hg2 := World.grownBy.trans hg' (below_grown (r := some r) hb2)
          go_upto_region 6 with fail
          rename_i hnext
          refine wp_region_lit ?_
          refine Og.st_start (n := 59) rfl fun aF hF => ?_
          refine Og.st_same (.agg (s.map bv).toArray) hF rfl rfl (by decide) (Og.exec_load rfl (hS2.load Hs.out)) fun aF hF => ?_
          refine Og.st_skip (w' := w2.setCells w.heap.size 0 (s.map bv)) hF rfl rfl
            (exec_store (o := 0) (vs := s.map bv) (cs := Wi.zeros.map bv) rfl rfl rfl hZ2 (by rw [List.length_map, List.length_map, Hs.out]; decide) (by rw [List.length_map, Hs.out]; exact s32_sz) (bvs_one s)) fun aF hF => ?_
          have hgs := setCells_grown w2 w.heap.size 0 (s.map bv)
          have hZ3 := hZ2.over s (by rw [Hs.out]; rfl)
          have hR3 := hR2.grown hgs (fun e => by omega)
          have hg3 := grown_own hg2 hgs (Nat.le_refl _)
          generalize w2.setCells w.heap.size 0 (s.map bv) = w3 at *
          refine Og.st_same (.bool false) hF rfl rfl (by decide) (by kernel_rfl) fun aF hF => ?_
          refine wpList_nil ?_
          refine hnext _ _ (wp_ret ?_)
          (try simp only [Exit.inBlock, Exit.then, Exit.inLoop])
          refine bodyPost_ret (results_cellTmp rfl (hF.2.2 4) (by simpa [Instr.loadAt, Instr.sureAddr] using hZ3.load Hs.out)) hF.1 ?_
          rw [hF.2.2 5]
          have hq := Hq.out
          have hb0 : (b != 0) = true := by
            cases h : (b != 0)
            · have : b = 0 := by simpa using h
              subst this
              simp at hz
            · rfl
          rw [Hk.out, Hdrop.out, Wi.rdSum] at hq
          simp only [hb0, Bool.and_self, if_true, Wi.preS] at hq
          rw [hq]
          refine ⟨⟨s, Hs.out, rfl⟩, ?_, hg3⟩
          have : l.length - (b :: l.drop (pl + 1)).length = pl := by
            have := congrArg List.length Hdrop.out
            rw [← this, List.length_drop]
            have := Hple.out
            omega
          simp only [this]
          exact hR3
  · rintro a w' ⟨s, ⟨U, rfl⟩, hs, hat', heq, hS2, hZ2, hR2, hg2⟩
    rw [Nat.sub_self, Wi.rdSum, Wi.preS, List.take_of_length_le (by omega), List.append_nil] at heq
    have Hq := Lib.hid heq
    have Hs := Lib.hid hs
    clear heq hs
    obtain ⟨w2, rfl⟩ : ∃ w2, w2 = w' := ⟨_, rfl⟩
    go_upto_region 9 with fail
    rename_i hnext
    refine wp_region_lit ?_
    refine Og.st_start (n := 59) rfl fun aF hF => ?_
    refine Og.st_same (.agg (s.map bv).toArray) hF rfl rfl (by decide) (Og.exec_load rfl (hS2.load Hs.out)) fun aF hF => ?_
    refine Og.st_skip (w' := w2.setCells w.heap.size 0 (s.map bv)) hF rfl rfl
      (exec_store (o := 0) (vs := s.map bv) (cs := Wi.zeros.map bv) rfl rfl rfl hZ2 (by rw [List.length_map, List.length_map, Hs.out]; decide) (by rw [List.length_map, Hs.out]; exact s32_sz) (bvs_one s)) fun aF hF => ?_
    have hgs := setCells_grown w2 w.heap.size 0 (s.map bv)
    have hZ3 := hZ2.over s (by rw [Hs.out]; rfl)
    have hR3 := hR2.grown hgs (fun e => by omega)
    have hg3 := grown_own hg2 hgs (Nat.le_refl _)
    generalize w2.setCells w.heap.size 0 (s.map bv) = w3 at *
    refine Og.st_same (.bool true) hF rfl rfl (by decide) (by kernel_rfl) fun aF hF => ?_
    refine wpList_nil ?_
    refine hnext _ _ (wp_ret ?_)
    (try simp only [Exit.inBlock, Exit.then, Exit.inLoop])
    refine bodyPost_ret (results_cellTmp rfl (hF.2.2 4) (by simpa [Instr.loadAt, Instr.sureAddr] using hZ3.load Hs.out)) hF.1 ?_
    rw [hF.2.2 5]
    rw [Hq.out]
    refine ⟨Hs.out, rfl, ?_, hg3⟩
    rw [List.length_drop, show l.length - (l.length - (at_ + 32)) = at_ + 32 by omega]
    exact hR3
end Go.Proofs.YtbgfoobcpacfeaaDoor
