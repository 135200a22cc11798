/- The document's own DecodePacket. (Printed by wip/w7gen/mkrfdec.py.) -/
import Derived.Test.YtbgfoobcpacfeaaDoorPk8
import Derived.Test.YtbgfoobcpacfeaaDoorRfPl
import Derived.Test.YtbgfoobcpacfeaaDoorRfRest
namespace Go.Proofs.YtbgfoobcpacfeaaDoor
open Go.RowKit
set_option maxRecDepth 100000
set_option linter.unusedVariables false
set_option linter.unusedSimpArgs false

theorem rrest_enter : Og.Enters Tryd.prog 48 := fun args w => by kernel_rfl
theorem RRestPost.form {w w' : World} {r len : Nat} {bs : Value} {res : Wi.Res Wi.Pk} {e : Ending} (h : RRestPost w r bs len res e w') : ∃ q pv t rest, e = .returned (.tuple #[.agg (pkL q pv).toArray, .bool t]) ∧ q.Ok ∧ pv.oneCell' = true ∧ (t = true → OB w.heap.size w' pv q.data) ∧ RRd w' r bs (len - rest.length) ∧ w.grownBy w' (some r) ∧ res = if t then .ok q rest else .bad rest := by
  cases res with
  | ok q rest =>
    obtain ⟨pv, h1, h2, h3, h4, h5⟩ := h
    obtain ⟨dp, dc, e⟩ := h3.rb.form
    exact ⟨q, pv, true, rest, h1, h2, by rw [e]; rfl, fun _ => h3, h4, h5, rfl⟩
  | bad rest =>
    obtain ⟨q, h1, h2, h4, h5⟩ := h
    exact ⟨q, .slice none 0 0, false, rest, h1, h2, rfl, fun h => (by cases h), h4, h5, rfl⟩
theorem rdAll_suf : ∀ (fs : List Fd) (p : Wi.Pk) (l : List UInt8), (∀ q r, Wi.rdAll fs p l = .ok q r → r <:+ l) ∧ ∀ r, Wi.rdAll fs p l = .bad r → r <:+ l
  | [], p, l => ⟨fun q r h => by simp only [Wi.rdAll, Wi.Res.ok.injEq] at h; rw [h.2]; exact List.suffix_refl _, fun r h => by simp [Wi.rdAll] at h⟩
  | x :: fs, p, l => by
    rw [Wi.rdAll]
    cases hq : Wi.rdF p x l with
    | ok q r =>
      have h1 := Wi.rdF_suffix.1 q r hq
      have ih := rdAll_suf fs q r
      exact ⟨fun q' r' h => (ih.1 q' r' h).trans h1, fun r' h => (ih.2 r' h).trans h1⟩
    | bad r =>
      have h1 := Wi.rdF_suffix.2 r hq
      exact ⟨fun q' r' h => by simp at h, fun r' h => by simp only [Wi.Res.bad.injEq] at h; rw [← h]; exact h1⟩
theorem rd_tu : Tryd.prog.underlying 95 = some (.struct (Tryd.prog.fieldsOf 95)) := by kernel_rfl
theorem rdec_res {w : World} {R0 : Nat} {q : Wi.Pk} {pv : Value} (tmps : Array Value) (h2 : tmps.getD 2 undef = .pointer (some ⟨R0, 0, none⟩)) (hP : PkAt w R0 q pv) (hq : q.Ok) :
    (results Tryd.f27 tmps).run Tryd.prog w = .ok (.tuple #[.agg (pkL q pv).toArray, tmps.getD 3 undef, tmps.getD 4 undef]) w :=
  results_cell3 tmps rfl h2 (by simpa [Instr.loadAt, Instr.sureAddr] using load_pk hP hq)
set_option maxHeartbeats 8000000 in
theorem rdec_nil {w : World} {p : Option Addr} {c : Nat} : Calls Tryd.prog 27 #[.slice p 0 c] w (DecPost w []) := by
  have hz := heap_new w (.cells (pkL (Wi.Pk.zero 0) (.slice none 0 0)).toArray 34) w.heap.size rfl
  have hb0 := below_alloc1 w (.cells (pkL (Wi.Pk.zero 0) (.slice none 0 0)).toArray 34)
  have hs0 : (w.alloc (.cells (pkL (Wi.Pk.zero 0) (.slice none 0 0)).toArray 34)).heap.size = w.heap.size + 1 := by simp
  go_enter Tryd.func27, Tryd.ntmps27
  go_upto_region 0 with fail
  rename_i hnext
  refine wp_region_lit ?_
  refine Og.st_start (n := 70) rfl fun a hF => ?_
  refine Og.st_val (w' := w.alloc (.cells (pkL (Wi.Pk.zero 0) (.slice none 0 0)).toArray 34)) (.pointer (some ⟨w.heap.size, 0, none⟩)) hF rfl rfl (by decide) (alloc_pk rfl w) ?_
  clear hF a; intro a hF
  generalize w.alloc (.cells (pkL (Wi.Pk.zero 0) (.slice none 0 0)).toArray 34) = w0 at *
  refine Og.st_same (.int .i64 0) hF rfl rfl (by decide) (by kernel_rfl) ?_
  clear hF a; intro a hF
  refine Og.st_same (.int .i64 0) hF rfl rfl (by decide) (by kernel_rfl) ?_
  clear hF a; intro a hF
  refine wpList_nil ?_
  obtain ⟨U, rfl⟩ := Og.Fr.lit_ex hF (fun U => ⟨#[.slice p 0 c, U 1, .pointer (some ⟨w.heap.size, 0, none⟩), .int .i64 0, .int .i64 0, U 5, U 6, U 7, U 8, U 9, U 10, U 11, U 12, U 13, U 14, U 15, U 16, U 17, U 18, U 19, U 20, U 21, U 22, U 23, U 24, U 25, U 26, U 27, U 28, U 29, U 30, U 31, U 32, U 33, U 34, U 35, U 36, U 37, U 38, U 39, U 40, U 41, U 42, U 43, U 44, U 45, U 46, U 47, U 48, U 49, U 50, U 51, U 52, U 53, U 54, U 55, U 56, U 57, U 58, U 59, U 60, U 61, U 62, U 63, U 64, U 65, U 66, U 67, U 68, U 69], []⟩) (by kernel_rfl)
  clear hF
  refine hnext _ _ ?_
  clear hnext
  go_upto_region 2 with fail
  rename_i hnext
  refine wp_region_lit ?_
  refine Og.st_start (n := 70) rfl fun a hF => ?_
  refine Og.st_same (.agg (pkL (Wi.Pk.zero 0) (.slice none 0 0)).toArray) hF rfl rfl (by decide) (build_zero rfl _) ?_
  clear hF a; intro a hF
  refine Og.st_skip (w' := _) hF rfl rfl
    (exec_store (o := 0) (vs := pkL (Wi.Pk.zero 0) (.slice none 0 0)) (cs := pkL (Wi.Pk.zero 0) (.slice none 0 0)) rfl rfl rfl hz (Nat.le_of_eq (by simp)) (by rw [pkL_length (Wi.Pk.zero_ok 0)]; exact pk_i) (pkL_one (Wi.Pk.zero 0) _ rfl)) ?_
  clear hF a; intro a hF
  have hP1 := PkAt.store hz 0 _ _ _ set_zero
  have hb1 : Below w.heap.size w (w0.setCells w.heap.size 0 (pkL (Wi.Pk.zero 0) (.slice none 0 0))) := hb0.grown (setCells_grown _ w.heap.size 0 _) hb0.size (fun k hk => by injection hk with hk; omega)
  generalize w0.setCells w.heap.size 0 (pkL (Wi.Pk.zero 0) (.slice none 0 0)) = w1 at *
  refine Og.st_same (.int .i64 0) hF rfl rfl (by decide) (by kernel_rfl) ?_
  clear hF a; intro a hF
  refine Og.st_same (.int .i64 71) hF rfl rfl (by decide) (by kernel_rfl) ?_
  clear hF a; intro a hF
  refine wpList_nil ?_
  refine hnext _ _ (wp_ret ?_)
  (try simp only [Exit.inBlock, Exit.then])
  refine bodyPost_ret (rdec_res _ (hF.2.2 2) hP1 (Wi.Pk.zero_ok 0)) hF.1 ?_
  rw [hF.2.2 3, hF.2.2 4]
  show DecPost w [] _ _
  exact ⟨.slice none 0 0, rfl, OB.nil_ _ _, hb1⟩
set_option maxHeartbeats 8000000 in
theorem rdec_cons {w : World} {g o cp : Nat} {b : UInt8} {l' : List UInt8} (hr : RB w (.slice (some ⟨g, o, none⟩) (b :: l').length cp) (b :: l')) (hC : Cars w) (h5 : Fives w) :
    Calls Tryd.prog 27 #[.slice (some ⟨g, o, none⟩) (b :: l').length cp] w (DecPost w (b :: l')) := by
  have hl0 : 0 < (b :: l').length := by simp
  have hl0I : ¬ (((b :: l').length : Nat) : Int) = 0 := by simp; omega
  have hgl : g < w.heap.size := hr.block (by simp) g rfl
  have h2w : 2 < w.heap.size := hC.1
  have hll := hr.len
  have hcc : (b :: l').length ≤ cp ∧ cp ≤ maxLen := by
    obtain ⟨p1, c1, e, e1, e2, e3, -⟩ := hr
    simp only [Value.slice.injEq] at e
    obtain ⟨-, -, rfl⟩ := e
    exact ⟨e1, e2⟩
  obtain ⟨hcc, hccm⟩ := hcc
  obtain ⟨l, hlb⟩ : ∃ l, l = b :: l' := ⟨_, rfl⟩
  have hb00 : l[0]? = some b := by rw [hlb]; rfl
  have hdrop : l.drop 1 = l' := by rw [hlb]; rfl
  rw [← hlb] at hr hl0 hl0I hll hcc ⊢
  have Hun := Lib.hid (show Wi.unpack l = if knownB b.toNat = false then (Wi.Pk.zero 0, 0, 74) else Wi.fin l.length (Wi.rdAll (Wi.fieldsOf b.toNat) (Wi.Pk.zero b.toNat) (l.drop 1)) from by
    cases hk : knownB b.toNat
    · rw [if_pos rfl, hlb]; show (if knownB b.toNat = false then _ else _) = _; rw [if_pos hk]
    · rw [if_neg (by decide), hdrop, hlb, Wi.unpack_known hk])
  clear hlb hdrop l'
  have hz := heap_new w (.cells (pkL (Wi.Pk.zero 0) (.slice none 0 0)).toArray 34) w.heap.size rfl
  have hb0 := below_alloc1 w (.cells (pkL (Wi.Pk.zero 0) (.slice none 0 0)).toArray 34)
  have hs0 : (w.alloc (.cells (pkL (Wi.Pk.zero 0) (.slice none 0 0)).toArray 34)).heap.size = w.heap.size + 1 := by simp
  go_enter Tryd.func27, Tryd.ntmps27
  go_upto_region 0 with fail
  rename_i hnext
  refine wp_region_lit ?_
  refine Og.st_start (n := 70) rfl fun a hF => ?_
  refine Og.st_val (w' := w.alloc (.cells (pkL (Wi.Pk.zero 0) (.slice none 0 0)).toArray 34)) (.pointer (some ⟨w.heap.size, 0, none⟩)) hF rfl rfl (by decide) (alloc_pk rfl w) ?_
  clear hF a; intro a hF
  generalize w.alloc (.cells (pkL (Wi.Pk.zero 0) (.slice none 0 0)).toArray 34) = w0 at *
  refine Og.st_same (.int .i64 0) hF rfl rfl (by decide) (by kernel_rfl) ?_
  clear hF a; intro a hF
  refine Og.st_same (.int .i64 0) hF rfl rfl (by decide) (by kernel_rfl) ?_
  clear hF a; intro a hF
  refine wpList_nil ?_
  obtain ⟨U, rfl⟩ := Og.Fr.lit_ex hF (fun U => ⟨#[.slice (some ⟨g, o, none⟩) l.length cp, U 1, .pointer (some ⟨w.heap.size, 0, none⟩), .int .i64 0, .int .i64 0, U 5, U 6, U 7, U 8, U 9, U 10, U 11, U 12, U 13, U 14, U 15, U 16, U 17, U 18, U 19, U 20, U 21, U 22, U 23, U 24, U 25, U 26, U 27, U 28, U 29, U 30, U 31, U 32, U 33, U 34, U 35, U 36, U 37, U 38, U 39, U 40, U 41, U 42, U 43, U 44, U 45, U 46, U 47, U 48, U 49, U 50, U 51, U 52, U 53, U 54, U 55, U 56, U 57, U 58, U 59, U 60, U 61, U 62, U 63, U 64, U 65, U 66, U 67, U 68, U 69], []⟩) (by kernel_rfl)
  clear hF
  refine hnext _ _ ?_
  clear hnext
  go_upto_region 3 with fail
  rename_i hnext
  have hr0 := hr.below hb0
  have hcell := cell_of_rb hr0 0 b hb00
  rw [Nat.add_zero] at hcell
  refine wp_region_lit ?_
  refine Og.st_start (n := 70) rfl fun a hF => ?_
  refine Og.st_same (.slice (some ⟨g, o, none⟩) l.length cp) hF rfl rfl (by decide) (by kernel_rfl) ?_
  clear hF a; intro a hF
  refine Og.st_same (.pointer (some ⟨g, o, none⟩)) hF rfl rfl (by decide) (exec_idx rfl (idx0 w0 g o l.length cp hl0)) ?_
  clear hF a; intro a hF
  refine Og.st_same (bv b) hF rfl rfl (by decide) (Og.exec_load rfl (ld_byte hcell)) ?_
  clear hF a; intro a hF
  refine Og.st_same (.int .i64 (b.toNat : Nat)) hF rfl rfl (by decide) (exec_conv rfl (cv_byte w0 b)) ?_
  clear hF a; intro a hF
  refine Og.st_same (.int .i64 (b.toNat : Nat)) hF rfl rfl (by decide) (by kernel_rfl) ?_
  clear hF a; intro a hF
  obtain ⟨c, hcb⟩ : ∃ c, c = b.toNat := ⟨_, rfl⟩
  rw [← hcb] at hF Hun
  clear hcell hb00 hl0I hcb
  refine wpList_nil ?_
  obtain ⟨U, rfl⟩ := Og.Fr.lit_ex hF (fun U => ⟨#[.slice (some ⟨g, o, none⟩) l.length cp, U 1, .pointer (some ⟨w.heap.size, 0, none⟩), .int .i64 0, .int .i64 0, .int .i64 c, U 6, U 7, U 8, U 9, U 10, U 11, U 12, U 13, U 14, U 15, U 16, U 17, U 18, U 19, U 20, U 21, U 22, U 23, U 24, U 25, U 26, U 27, U 28, U 29, U 30, U 31, U 32, U 33, U 34, U 35, U 36, U 37, U 38, U 39, U 40, U 41, U 42, U 43, U 44, U 45, U 46, U 47, U 48, U 49, U 50, U 51, U 52, U 53, U 54, U 55, U 56, U 57, U 58, U 59, U 60, U 61, U 62, U 63, U 64, U 65, U 66, U 67, U 68, U 69], []⟩) (by kernel_rfl)
  clear hF
  refine hnext _ _ ?_
  clear hnext
  by_cases hk1 : (c : Int) < 1
  · have hk : knownB c = false := by simp [knownB]; omega
    rw [hk, if_pos rfl] at Hun
    go_upto_region 5 with fail
    rename_i hnext
    refine wp_region_lit ?_
    refine Og.st_start (n := 70) rfl fun a hF => ?_
    refine Og.st_same (.agg (pkL (Wi.Pk.zero 0) (.slice none 0 0)).toArray) hF rfl rfl (by decide) (build_zero rfl _) ?_
    clear hF a; intro a hF
    refine Og.st_skip (w' := _) hF rfl rfl
      (exec_store (o := 0) (vs := pkL (Wi.Pk.zero 0) (.slice none 0 0)) (cs := pkL (Wi.Pk.zero 0) (.slice none 0 0)) rfl rfl rfl hz (Nat.le_of_eq (by simp)) (by rw [pkL_length (Wi.Pk.zero_ok 0)]; exact pk_i) (pkL_one (Wi.Pk.zero 0) _ rfl)) ?_
    clear hF a; intro a hF
    have hP1 := PkAt.store hz 0 _ _ _ set_zero
    have hb1 : Below w.heap.size w (w0.setCells w.heap.size 0 (pkL (Wi.Pk.zero 0) (.slice none 0 0))) := hb0.grown (setCells_grown _ w.heap.size 0 _) hb0.size (fun k hk => by injection hk with hk; omega)
    generalize w0.setCells w.heap.size 0 (pkL (Wi.Pk.zero 0) (.slice none 0 0)) = w1 at *
    refine Og.st_same (.int .i64 0) hF rfl rfl (by decide) (by kernel_rfl) ?_
    clear hF a; intro a hF
    refine Og.st_same (.int .i64 74) hF rfl rfl (by decide) (by kernel_rfl) ?_
    clear hF a; intro a hF
    refine wpList_nil ?_
    refine hnext _ _ (wp_ret ?_)
    (try simp only [Exit.inBlock, Exit.then])
    refine bodyPost_ret (rdec_res _ (hF.2.2 2) hP1 (Wi.Pk.zero_ok 0)) hF.1 ?_
    rw [hF.2.2 3, hF.2.2 4]
    show DecPost w l _ _
    unfold DecPost
    rw [Hun.out]
    exact ⟨.slice none 0 0, rfl, OB.nil_ _ _, hb1⟩
  · by_cases hk2 : 25 < (c : Int)
    · have hk : knownB c = false := by simp [knownB]; omega
      rw [hk, if_pos rfl] at Hun
      go_upto_region 5 with fail
      rename_i hnext
      refine wp_region_lit ?_
      refine Og.st_start (n := 70) rfl fun a hF => ?_
      refine Og.st_same (.agg (pkL (Wi.Pk.zero 0) (.slice none 0 0)).toArray) hF rfl rfl (by decide) (build_zero rfl _) ?_
      clear hF a; intro a hF
      refine Og.st_skip (w' := _) hF rfl rfl
        (exec_store (o := 0) (vs := pkL (Wi.Pk.zero 0) (.slice none 0 0)) (cs := pkL (Wi.Pk.zero 0) (.slice none 0 0)) rfl rfl rfl hz (Nat.le_of_eq (by simp)) (by rw [pkL_length (Wi.Pk.zero_ok 0)]; exact pk_i) (pkL_one (Wi.Pk.zero 0) _ rfl)) ?_
      clear hF a; intro a hF
      have hP1 := PkAt.store hz 0 _ _ _ set_zero
      have hb1 : Below w.heap.size w (w0.setCells w.heap.size 0 (pkL (Wi.Pk.zero 0) (.slice none 0 0))) := hb0.grown (setCells_grown _ w.heap.size 0 _) hb0.size (fun k hk => by injection hk with hk; omega)
      generalize w0.setCells w.heap.size 0 (pkL (Wi.Pk.zero 0) (.slice none 0 0)) = w1 at *
      refine Og.st_same (.int .i64 0) hF rfl rfl (by decide) (by kernel_rfl) ?_
      clear hF a; intro a hF
      refine Og.st_same (.int .i64 74) hF rfl rfl (by decide) (by kernel_rfl) ?_
      clear hF a; intro a hF
      refine wpList_nil ?_
      refine hnext _ _ (wp_ret ?_)
      (try simp only [Exit.inBlock, Exit.then])
      refine bodyPost_ret (rdec_res _ (hF.2.2 2) hP1 (Wi.Pk.zero_ok 0)) hF.1 ?_
      rw [hF.2.2 3, hF.2.2 4]
      show DecPost w l _ _
      unfold DecPost
      rw [Hun.out]
      exact ⟨.slice none 0 0, rfl, OB.nil_ _ _, hb1⟩
    · have hk : knownB c = true := by simp [knownB]; omega
      have h1c : 1 ≤ c := by omega
      have hc26 : c < 26 := by omega
      rw [hk, if_neg (by decide), ← Wi.rRest_eq h1c hc26] at Hun
      go_upto_region 7 with fail
      rename_i hnext
      obtain ⟨w3, hw3⟩ : ∃ w3, w3 = w0.alloc (.cells #[.slice (some ⟨g, o, none⟩) l.length cp, .int .i64 1] 95) := ⟨_, rfl⟩
      have hb3 : Below w0.heap.size w0 w3 := by rw [hw3]; exact below_alloc1 _ _
      have hr3 : RRd w3 w0.heap.size (.slice (some ⟨g, o, none⟩) l.length cp) 1 := by rw [hw3]; exact heap_new w0 _ _ rfl
      rw [← hw3]
      clear hw3
      have hz3 := blk_below hz hb3
      have hb03 := hb0.trans (hb3.mono hb0.size)
      rw [hs0] at hr3
      obtain ⟨r, hre⟩ : ∃ r, r = w.heap.size + 1 := ⟨_, rfl⟩
      rw [← hre] at hr3 ⊢
      have hrw : w.heap.size < r := by rw [hre]; exact Nat.lt_succ_self _
      have hrb3 := hr.below hb03
      have hC3 : Cars w3 := Lies.below hC hb03
      have h53 : Fives w3 := Lies.below h5 hb03
      clear hk hk1 hk2 hr hr0 hb0 hb3 hz hs0 hre
      refine wp_region_lit ?_
      refine Og.st_start (n := 70) rfl fun a hF => ?_
      refine Og.st_same (.pointer (some ⟨r, 0, none⟩)) hF rfl rfl (by decide) (by kernel_rfl) ?_
      clear hF a; intro a hF
      refine Og.st_same (.int .i64 c) hF rfl rfl (by decide) (by kernel_rfl) ?_
      clear hF a; intro a hF
      refine Og.st_call (f := 48) (args := #[.pointer (some ⟨r, 0, none⟩), .int .i64 c]) hF rfl rfl (by decide) ((Og.exec_call rfl rrest_enter rfl _).trans (by kernel_rfl)) ((rrest_calls hr3 hrb3 (by omega) (by omega) hcc hccm hll hc26 hC3 h53 (by omega) (by omega)).mono ?_)
      intro e w5 hpost
      obtain ⟨q, pv, t, rest, rfl, hq, hone, hob, hR5, hg5, hres⟩ := hpost.form
      refine ⟨_, rfl, ?_⟩
      clear hF a; intro a hF
      rw [hres] at Hun
      have hrl : rest.length ≤ l.length := by
        rw [Wi.rRest_eq h1c hc26] at hres
        have hs : rest <:+ l.drop 1 := by
          cases t
          · rw [if_neg (by decide)] at hres
            exact (rdAll_suf _ _ _).2 _ hres
          · rw [if_pos rfl] at hres
            exact (rdAll_suf _ _ _).1 _ _ hres
        exact (hs.trans (List.drop_suffix _ _)).length_le
      have hz5 := blk_grown hz3 hg5 (fun e => by injection e; omega)
      have hw35 := hg5.size
      have hsz3 := hb03.size
      have hrlt5 := hR5.lt
      have hb5 : Below w.heap.size w w5 := hb03.grown hg5 hsz3 (fun k e => by injection e; omega)
      have hob5 : t = true → OB (w.heap.size + 1) w5 pv q.data := fun h => (hob h).more (by have := hr3.lt; omega)
      have hndr : ∀ h : t = true, pv.ownBlock ≠ some r := fun h e => by have := ((hob h).lt _ e).1; have := hr3.lt; omega
      clear hpost hres hob hz3 hg5 hr3 hrb3 hC3 h53 hb03 hC h5 hw35
      refine Og.st_same (.tuple #[.agg (pkL q pv).toArray, .bool t]) hF rfl rfl (by decide) (by kernel_rfl) ?_
      clear hF a; intro a hF
      refine Og.st_same (.agg (pkL q pv).toArray) hF rfl rfl (by decide) (by kernel_rfl) ?_
      clear hF a; intro a hF
      refine Og.st_same (.bool t) hF rfl rfl (by decide) (by kernel_rfl) ?_
      clear hF a; intro a hF
      refine Og.st_val (w' := w5.alloc (.cells (pkL (Wi.Pk.zero 0) (.slice none 0 0)).toArray 34)) (.pointer (some ⟨w5.heap.size, 0, none⟩)) hF rfl rfl (by decide) (alloc_pk rfl w5) ?_
      clear hF a; intro a hF
      have hL6 := heap_new w5 (.cells (pkL (Wi.Pk.zero 0) (.slice none 0 0)).toArray 34) w5.heap.size rfl
      have hba := below_alloc1 w5 (.cells (pkL (Wi.Pk.zero 0) (.slice none 0 0)).toArray 34)
      have hsa : (w5.alloc (.cells (pkL (Wi.Pk.zero 0) (.slice none 0 0)).toArray 34)).heap.size = w5.heap.size + 1 := by simp
      refine Og.st_skip (w' := (w5.alloc (.cells (pkL (Wi.Pk.zero 0) (.slice none 0 0)).toArray 34)).setCells w5.heap.size 0 (pkL q pv)) hF rfl rfl
        (exec_store (o := 0) (vs := pkL q pv) (cs := pkL (Wi.Pk.zero 0) (.slice none 0 0)) rfl rfl rfl hL6 (by rw [pkL_length (Wi.Pk.zero_ok 0), pkL_length hq]; decide) (by rw [pkL_length hq]; exact pk_i) (pkL_one q pv hone)) ?_
      clear hF a; intro a hF
      have hP6 := PkAt.store hL6 0 _ q pv (set_all hq (Wi.Pk.zero_ok 0))
      have hb56 : Below w5.heap.size w5 ((w5.alloc (.cells (pkL (Wi.Pk.zero 0) (.slice none 0 0)).toArray 34)).setCells w5.heap.size 0 (pkL q pv)) := hba.grown (setCells_grown _ w5.heap.size 0 _) (by omega) (fun k hk => by injection hk with hk; omega)
      generalize (w5.alloc (.cells (pkL (Wi.Pk.zero 0) (.slice none 0 0)).toArray 34)).setCells w5.heap.size 0 (pkL q pv) = w6 at *
      have hb6 := hb5.trans (hb56.mono hb5.size)
      have hz6 : PkAt w6 w.heap.size (Wi.Pk.zero 0) (.slice none 0 0) := blk_below hz5 hb56
      have hR6 := hR5.below hb56
      have hob6 : t = true → OB (w.heap.size + 1) w6 pv q.data := fun h => (hob5 h).below hb56
      obtain ⟨L, hL⟩ : ∃ L, L = w5.heap.size := ⟨_, rfl⟩
      rw [← hL] at hP6 hF
      refine Og.st_same (.bool t) hF rfl rfl (by decide) (by kernel_rfl) ?_
      clear hF a; intro a hF
      refine wpList_nil ?_
      obtain ⟨U, rfl⟩ := Og.Fr.lit_ex hF (fun U => ⟨#[.slice (some ⟨g, o, none⟩) l.length cp, U 1, .pointer (some ⟨w.heap.size, 0, none⟩), .int .i64 0, .int .i64 0, .int .i64 c, .pointer (some ⟨r, 0, none⟩), .pointer (some ⟨L, 0, none⟩), .bool t, U 9, U 10, U 11, U 12, U 13, U 14, U 15, U 16, U 17, U 18, U 19, U 20, U 21, U 22, U 23, U 24, U 25, U 26, U 27, U 28, U 29, U 30, U 31, U 32, U 33, U 34, U 35, U 36, U 37, U 38, U 39, U 40, U 41, U 42, U 43, U 44, U 45, U 46, U 47, U 48, U 49, U 50, U 51, U 52, U 53, U 54, U 55, U 56, U 57, U 58, U 59, U 60, U 61, U 62, U 63, U 64, U 65, U 66, U 67, U 68, U 69], []⟩) (by kernel_rfl)
      clear hF
      refine hnext _ _ ?_
      clear hnext
      have hLr : r < L := by omega
      obtain ⟨n, hn⟩ : ∃ n, n = l.length - rest.length := ⟨_, rfl⟩
      rw [← hn] at hR6
      have h61 := hR6.c1
      have hrlt6 := hR6.lt
      have hLlt := hP6.lt
      clear hL hba hsa hb56 hL6 hz5 hR5 hob5 hb5 hrlt5 hsz3 w5 w3 w0 hl0
      have Hq := Lib.hid hq
      clear hq
      cases t
      · rw [if_neg (by decide)] at Hun
        cases rest with
        | nil =>
          have hnl : n = l.length := hn
          have Hu : Hid (Wi.unpack l = (Wi.Pk.zero 0, n, 71)) := by show _ = _; rw [Hun.out, hnl]; rfl
          have hbe : ((n : Int) == (l.length : Int)) = true := by simp [hnl]
          clear hn hnl hrl Hun
          go_upto_region 13 with fail
          refine Og.wp_region_og _ (fun j => j == 6 || j == 7)
            (Og.Vt [.agg (pkL (Wi.Pk.zero 0) (.slice none 0 0)).toArray, .pointer (some ⟨r, 0, none⟩), .pointer (some ⟨r, 0, none⟩), .pointer (some ⟨r, 1, none⟩), .int .i64 (n : Nat), undef, .int .i64 (n : Nat), .int .i64 71] [(5, fun _ _ => True)])
            (fun w' => PkAt w' w.heap.size (Wi.Pk.zero 0) (.slice none 0 0) ∧ RRd w' r (.slice (some ⟨g, o, none⟩) l.length cp) n ∧ Below w.heap.size w w')
            (fun _ _ => True) 70 rfl (by kernel_rfl) (by kernel_rfl) ⟨hz6.below (Below.drew (Below.refl _ _)), hR6.below (Below.drew (Below.refl _ _)), hb6.trans (Below.drew (Below.refl _ _))⟩ (fun _ _ => trivial) (Og.allOps ⟨?_, ?_, ?_, ?_, ?_, ?_, ?_, ?_, trivial⟩) ?_
          · exact Og.ok_val _ rfl rfl fun φ w7 hA => build_zero rfl w7
          · refine Og.ok_val _ rfl rfl fun φ w7 hA => ?_
            have e6 : φ 6 = .pointer (some ⟨r, 0, none⟩) := hA.old 6 (by kernel_rfl)
            simp only [execOp, Og.ev, e6]
            go_simp
          · refine Og.ok_val _ rfl rfl fun φ w7 hA => ?_
            have e6 : φ 61 = .pointer (some ⟨r, 0, none⟩) := hA.of 1 (d := 61) (by simp) rfl rfl
            simp only [execOp, Og.ev, e6]
            go_simp
          · refine Og.ok_val _ rfl rfl fun φ w7 hA => ?_
            have e6 : φ 62 = .pointer (some ⟨r, 0, none⟩) := hA.of 2 (d := 62) (by simp) rfl rfl
            simp only [execOp, Og.ev, e6]
            go_simp
          · refine Og.ok_val _ rfl rfl fun φ w7 hA => ?_
            have e6 : φ 63 = .pointer (some ⟨r, 1, none⟩) := hA.of 3 (d := 63) (by simp) rfl rfl
            have h71 := hA.keep.2.1.c1
            simp only [execOp, Og.ev, e6]
            go_simp
          · refine Og.ok_wskip _ rfl fun φ w7 hA => ?_
            have e2 : φ 2 = .pointer (some ⟨w.heap.size, 0, none⟩) := hA.old 2 (by kernel_rfl)
            have e46 : φ 60 = .agg (pkL (Wi.Pk.zero 0) (.slice none 0 0)).toArray := hA.of 0 (d := 60) (by simp) rfl rfl
            obtain ⟨hz7, hR7, hb7⟩ := hA.keep
            refine ⟨w7.setCells w.heap.size 0 (pkL (Wi.Pk.zero 0) (.slice none 0 0)), exec_store (o := 0) (vs := pkL (Wi.Pk.zero 0) (.slice none 0 0)) (cs := pkL (Wi.Pk.zero 0) (.slice none 0 0)) rfl e2 (by show (φ 60).cells = _; rw [e46]; rfl) hz7 (Nat.le_of_eq (by simp)) (by rw [pkL_length (Wi.Pk.zero_ok 0)]; exact pk_i) (pkL_one (Wi.Pk.zero 0) _ rfl), ⟨PkAt.store hz7 0 _ _ _ set_zero, blk_grown hR7 (setCells_grown w7 w.heap.size 0 _) (fun e => by injection e; omega), hb7.grown (setCells_grown w7 w.heap.size 0 _) hb7.size (fun k hk => by injection hk with hk; omega)⟩, trivial, fun _ _ h => h, fun x hx _ u _ => by simp only [List.mem_cons, List.not_mem_nil, or_false] at hx; subst hx; trivial⟩
          · refine Og.ok_val _ rfl rfl fun φ w7 hA => ?_
            have e6 : φ 64 = .int .i64 (n : Nat) := hA.of 4 (d := 64) (by simp) rfl rfl
            simp only [execOp, Og.ev, e6]
            go_simp
          · refine Og.ok_val _ rfl rfl fun φ w7 hA => ?_
            simp only [execOp, Og.ev]
            go_simp
          · rename_i hnext
            intro φ a w7 hF hR h0 hV hN
            have e2 : φ 2 = .pointer (some ⟨w.heap.size, 0, none⟩) := h0 2 (by kernel_rfl)
            have e3 : φ 3 = .int .i64 (n : Nat) := hV 6 _ 3 rfl rfl rfl
            have e4 : φ 4 = .int .i64 71 := hV 7 _ 4 rfl rfl rfl
            refine hnext _ _ (wp_ret ?_)
            (try simp only [Exit.inBlock, Exit.then])
            refine bodyPost_ret (rdec_res _ ((hF.2.2 2).trans e2) hR.1 (Wi.Pk.zero_ok 0)) hF.1 ?_
            rw [hF.2.2 3, hF.2.2 4, e3, e4]
            show DecPost w l _ _
            unfold DecPost
            rw [Hu.out]
            exact ⟨.slice none 0 0, rfl, OB.nil_ _ _, hR.2.2⟩
        | cons d rr =>
          have hnl : n < l.length := by simp only [List.length_cons] at hn hrl; omega
          have Hu : Hid (Wi.unpack l = (Wi.Pk.zero 0, n, 75)) := by show _ = _; rw [Hun.out, hn]; rfl
          have hbe : ((n : Int) == (l.length : Int)) = false := by
            have : ¬ (n : Int) = (l.length : Int) := by omega
            simpa using this
          clear hn hnl hrl Hun
          go_upto_region 14 with fail
          refine Og.wp_region_og _ (fun j => j == 6 || j == 7)
            (Og.Vt [.agg (pkL (Wi.Pk.zero 0) (.slice none 0 0)).toArray, .pointer (some ⟨r, 0, none⟩), .pointer (some ⟨r, 0, none⟩), .pointer (some ⟨r, 1, none⟩), .int .i64 (n : Nat), undef, .int .i64 (n : Nat), .int .i64 75] [(5, fun _ _ => True)])
            (fun w' => PkAt w' w.heap.size (Wi.Pk.zero 0) (.slice none 0 0) ∧ RRd w' r (.slice (some ⟨g, o, none⟩) l.length cp) n ∧ Below w.heap.size w w')
            (fun _ _ => True) 70 rfl (by kernel_rfl) (by kernel_rfl) ⟨hz6.below (Below.drew (Below.refl _ _)), hR6.below (Below.drew (Below.refl _ _)), hb6.trans (Below.drew (Below.refl _ _))⟩ (fun _ _ => trivial) (Og.allOps ⟨?_, ?_, ?_, ?_, ?_, ?_, ?_, ?_, trivial⟩) ?_
          · exact Og.ok_val _ rfl rfl fun φ w7 hA => build_zero rfl w7
          · refine Og.ok_val _ rfl rfl fun φ w7 hA => ?_
            have e6 : φ 6 = .pointer (some ⟨r, 0, none⟩) := hA.old 6 (by kernel_rfl)
            simp only [execOp, Og.ev, e6]
            go_simp
          · refine Og.ok_val _ rfl rfl fun φ w7 hA => ?_
            have e6 : φ 66 = .pointer (some ⟨r, 0, none⟩) := hA.of 1 (d := 66) (by simp) rfl rfl
            simp only [execOp, Og.ev, e6]
            go_simp
          · refine Og.ok_val _ rfl rfl fun φ w7 hA => ?_
            have e6 : φ 67 = .pointer (some ⟨r, 0, none⟩) := hA.of 2 (d := 67) (by simp) rfl rfl
            simp only [execOp, Og.ev, e6]
            go_simp
          · refine Og.ok_val _ rfl rfl fun φ w7 hA => ?_
            have e6 : φ 68 = .pointer (some ⟨r, 1, none⟩) := hA.of 3 (d := 68) (by simp) rfl rfl
            have h71 := hA.keep.2.1.c1
            simp only [execOp, Og.ev, e6]
            go_simp
          · refine Og.ok_wskip _ rfl fun φ w7 hA => ?_
            have e2 : φ 2 = .pointer (some ⟨w.heap.size, 0, none⟩) := hA.old 2 (by kernel_rfl)
            have e46 : φ 65 = .agg (pkL (Wi.Pk.zero 0) (.slice none 0 0)).toArray := hA.of 0 (d := 65) (by simp) rfl rfl
            obtain ⟨hz7, hR7, hb7⟩ := hA.keep
            refine ⟨w7.setCells w.heap.size 0 (pkL (Wi.Pk.zero 0) (.slice none 0 0)), exec_store (o := 0) (vs := pkL (Wi.Pk.zero 0) (.slice none 0 0)) (cs := pkL (Wi.Pk.zero 0) (.slice none 0 0)) rfl e2 (by show (φ 65).cells = _; rw [e46]; rfl) hz7 (Nat.le_of_eq (by simp)) (by rw [pkL_length (Wi.Pk.zero_ok 0)]; exact pk_i) (pkL_one (Wi.Pk.zero 0) _ rfl), ⟨PkAt.store hz7 0 _ _ _ set_zero, blk_grown hR7 (setCells_grown w7 w.heap.size 0 _) (fun e => by injection e; omega), hb7.grown (setCells_grown w7 w.heap.size 0 _) hb7.size (fun k hk => by injection hk with hk; omega)⟩, trivial, fun _ _ h => h, fun x hx _ u _ => by simp only [List.mem_cons, List.not_mem_nil, or_false] at hx; subst hx; trivial⟩
          · refine Og.ok_val _ rfl rfl fun φ w7 hA => ?_
            have e6 : φ 69 = .int .i64 (n : Nat) := hA.of 4 (d := 69) (by simp) rfl rfl
            simp only [execOp, Og.ev, e6]
            go_simp
          · refine Og.ok_val _ rfl rfl fun φ w7 hA => ?_
            simp only [execOp, Og.ev]
            go_simp
          · rename_i hnext
            intro φ a w7 hF hR h0 hV hN
            have e2 : φ 2 = .pointer (some ⟨w.heap.size, 0, none⟩) := h0 2 (by kernel_rfl)
            have e3 : φ 3 = .int .i64 (n : Nat) := hV 6 _ 3 rfl rfl rfl
            have e4 : φ 4 = .int .i64 75 := hV 7 _ 4 rfl rfl rfl
            refine hnext _ _ (wp_ret ?_)
            (try simp only [Exit.inBlock, Exit.then])
            refine bodyPost_ret (rdec_res _ ((hF.2.2 2).trans e2) hR.1 (Wi.Pk.zero_ok 0)) hF.1 ?_
            rw [hF.2.2 3, hF.2.2 4, e3, e4]
            show DecPost w l _ _
            unfold DecPost
            rw [Hu.out]
            exact ⟨.slice none 0 0, rfl, OB.nil_ _ _, hR.2.2⟩
      · rw [if_pos rfl] at Hun
        cases rest with
        | nil =>
          have hnl : n = l.length := hn
          have Hu : Hid (Wi.unpack l = (q, 0, 0)) := by show _ = _; rw [Hun.out]; rfl
          have hbe : ((n : Int) == (l.length : Int)) = true := by simp [hnl]
          have hd := hob6 rfl
          clear hn hnl hrl Hun
          go_upto_region 9 with fail
          rename_i hnext
          refine wp_region_lit ?_
          refine Og.st_start (n := 70) rfl fun a hF => ?_
          refine Og.st_same (.agg (pkL q pv).toArray) hF rfl rfl (by decide) (Og.exec_load rfl (load_pk hP6 Hq.out)) ?_
          clear hF a; intro a hF
          refine Og.st_skip (w' := w6.setCells w.heap.size 0 (pkL q pv)) hF rfl rfl
            (exec_store (o := 0) (vs := pkL q pv) (cs := pkL (Wi.Pk.zero 0) (.slice none 0 0)) rfl rfl rfl hz6 (by rw [pkL_length Hq.out, pkL_length (Wi.Pk.zero_ok 0)]; decide) (by rw [pkL_length Hq.out]; exact pk_i) (pkL_one q pv hone)) ?_
          clear hF a; intro a hF
          have hP8 := PkAt.store hz6 0 _ q pv (set_all Hq.out (Wi.Pk.zero_ok 0))
          have hb8 : Below w.heap.size w (w6.setCells w.heap.size 0 (pkL q pv)) := hb6.grown (setCells_grown _ w.heap.size 0 _) hb6.size (fun k hk => by injection hk with hk; omega)
          have hd8 : OB (w.heap.size + 1) (w6.setCells w.heap.size 0 (pkL q pv)) pv q.data := hd.kept (setCells_grown _ w.heap.size 0 _) (fun g' e e' => by have := (hd.lt g' e).1; injection e'; omega)
          generalize w6.setCells w.heap.size 0 (pkL q pv) = w8 at *
          refine Og.st_same (.int .i64 0) hF rfl rfl (by decide) (by kernel_rfl) ?_
          clear hF a; intro a hF
          refine Og.st_same (.int .i64 0) hF rfl rfl (by decide) (by kernel_rfl) ?_
          clear hF a; intro a hF
          refine wpList_nil ?_
          refine hnext _ _ (wp_ret ?_)
          (try simp only [Exit.inBlock, Exit.then])
          refine bodyPost_ret (rdec_res _ (hF.2.2 2) hP8 Hq.out) hF.1 ?_
          rw [hF.2.2 3, hF.2.2 4]
          show DecPost w l _ _
          unfold DecPost
          rw [Hu.out]
          exact ⟨pv, rfl, hd8.more (Nat.le_succ _), hb8⟩
        | cons d rr =>
          have hnl : n < l.length := by simp only [List.length_cons] at hn hrl; omega
          have Hu : Hid (Wi.unpack l = (Wi.Pk.zero 0, n, 76)) := by show _ = _; rw [Hun.out, hn]; rfl
          have hbe : ((n : Int) == (l.length : Int)) = false := by
            have : ¬ (n : Int) = (l.length : Int) := by omega
            simpa using this
          clear hn hnl hrl Hun
          go_upto_region 11 with fail
          refine Og.wp_region_og _ (fun j => j == 6 || j == 7)
            (Og.Vt [.agg (pkL (Wi.Pk.zero 0) (.slice none 0 0)).toArray, .pointer (some ⟨r, 0, none⟩), .pointer (some ⟨r, 0, none⟩), .pointer (some ⟨r, 1, none⟩), .int .i64 (n : Nat), undef, .int .i64 (n : Nat), .int .i64 76] [(5, fun _ _ => True)])
            (fun w' => PkAt w' w.heap.size (Wi.Pk.zero 0) (.slice none 0 0) ∧ RRd w' r (.slice (some ⟨g, o, none⟩) l.length cp) n ∧ Below w.heap.size w w')
            (fun _ _ => True) 70 rfl (by kernel_rfl) (by kernel_rfl) ⟨hz6.below (Below.drew (Below.refl _ _)), hR6.below (Below.drew (Below.refl _ _)), hb6.trans (Below.drew (Below.refl _ _))⟩ (fun _ _ => trivial) (Og.allOps ⟨?_, ?_, ?_, ?_, ?_, ?_, ?_, ?_, trivial⟩) ?_
          · exact Og.ok_val _ rfl rfl fun φ w7 hA => build_zero rfl w7
          · refine Og.ok_val _ rfl rfl fun φ w7 hA => ?_
            have e6 : φ 6 = .pointer (some ⟨r, 0, none⟩) := hA.old 6 (by kernel_rfl)
            simp only [execOp, Og.ev, e6]
            go_simp
          · refine Og.ok_val _ rfl rfl fun φ w7 hA => ?_
            have e6 : φ 48 = .pointer (some ⟨r, 0, none⟩) := hA.of 1 (d := 48) (by simp) rfl rfl
            simp only [execOp, Og.ev, e6]
            go_simp
          · refine Og.ok_val _ rfl rfl fun φ w7 hA => ?_
            have e6 : φ 49 = .pointer (some ⟨r, 0, none⟩) := hA.of 2 (d := 49) (by simp) rfl rfl
            simp only [execOp, Og.ev, e6]
            go_simp
          · refine Og.ok_val _ rfl rfl fun φ w7 hA => ?_
            have e6 : φ 50 = .pointer (some ⟨r, 1, none⟩) := hA.of 3 (d := 50) (by simp) rfl rfl
            have h71 := hA.keep.2.1.c1
            simp only [execOp, Og.ev, e6]
            go_simp
          · refine Og.ok_wskip _ rfl fun φ w7 hA => ?_
            have e2 : φ 2 = .pointer (some ⟨w.heap.size, 0, none⟩) := hA.old 2 (by kernel_rfl)
            have e46 : φ 47 = .agg (pkL (Wi.Pk.zero 0) (.slice none 0 0)).toArray := hA.of 0 (d := 47) (by simp) rfl rfl
            obtain ⟨hz7, hR7, hb7⟩ := hA.keep
            refine ⟨w7.setCells w.heap.size 0 (pkL (Wi.Pk.zero 0) (.slice none 0 0)), exec_store (o := 0) (vs := pkL (Wi.Pk.zero 0) (.slice none 0 0)) (cs := pkL (Wi.Pk.zero 0) (.slice none 0 0)) rfl e2 (by show (φ 47).cells = _; rw [e46]; rfl) hz7 (Nat.le_of_eq (by simp)) (by rw [pkL_length (Wi.Pk.zero_ok 0)]; exact pk_i) (pkL_one (Wi.Pk.zero 0) _ rfl), ⟨PkAt.store hz7 0 _ _ _ set_zero, blk_grown hR7 (setCells_grown w7 w.heap.size 0 _) (fun e => by injection e; omega), hb7.grown (setCells_grown w7 w.heap.size 0 _) hb7.size (fun k hk => by injection hk with hk; omega)⟩, trivial, fun _ _ h => h, fun x hx _ u _ => by simp only [List.mem_cons, List.not_mem_nil, or_false] at hx; subst hx; trivial⟩
          · refine Og.ok_val _ rfl rfl fun φ w7 hA => ?_
            have e6 : φ 51 = .int .i64 (n : Nat) := hA.of 4 (d := 51) (by simp) rfl rfl
            simp only [execOp, Og.ev, e6]
            go_simp
          · refine Og.ok_val _ rfl rfl fun φ w7 hA => ?_
            simp only [execOp, Og.ev]
            go_simp
          · rename_i hnext
            intro φ a w7 hF hR h0 hV hN
            have e2 : φ 2 = .pointer (some ⟨w.heap.size, 0, none⟩) := h0 2 (by kernel_rfl)
            have e3 : φ 3 = .int .i64 (n : Nat) := hV 6 _ 3 rfl rfl rfl
            have e4 : φ 4 = .int .i64 76 := hV 7 _ 4 rfl rfl rfl
            refine hnext _ _ (wp_ret ?_)
            (try simp only [Exit.inBlock, Exit.then])
            refine bodyPost_ret (rdec_res _ ((hF.2.2 2).trans e2) hR.1 (Wi.Pk.zero_ok 0)) hF.1 ?_
            rw [hF.2.2 3, hF.2.2 4, e3, e4]
            show DecPost w l _ _
            unfold DecPost
            rw [Hu.out]
            exact ⟨.slice none 0 0, rfl, OB.nil_ _ _, hR.2.2⟩
/-- The document's DecodePacket, any bytes. -/
theorem refDecP_calls {w : World} {v : Value} {l : List UInt8} (hr : RB w v l) (hC : Cars w) (h5 : Fives w) : Calls Tryd.prog 27 #[v] w (DecPost w l) := by
  cases l with
  | nil =>
    obtain ⟨p, c, rfl⟩ := hr.form
    exact rdec_nil
  | cons b l' =>
    obtain ⟨p, c, rfl⟩ := hr.form
    obtain ⟨g, o, rfl, -⟩ := hr.addr (by simp)
    exact rdec_cons hr hC h5
/-- The document's EncodePacket, any packet. -/
theorem refEncP_same {w : World} {pv : Value} {p : Wi.Pk} (hp : p.Ok) (hr : RB w pv p.data) (hC : Cars w) (h5 : Fives w) : Calls Tryd.prog 21 #[.agg (pkL p pv).toArray] w fun e w' => ∃ v, e = .returned (.tuple #[v, .int .i64 (Wi.packErr p)]) ∧ OB w.heap.size w' v (Wi.packOut p) ∧ Below w.heap.size w w' := by
  have := refEncP_calls hp hr hC h5
  unfold REncPost at this
  rw [Wi.err_eq, Wi.out_eq] at this
  exact this
end Go.Proofs.YtbgfoobcpacfeaaDoor
