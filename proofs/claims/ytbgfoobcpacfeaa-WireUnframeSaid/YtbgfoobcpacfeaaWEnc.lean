/- The bytes of a frame: the program's EncodeFrame. -/
import Derived.Test.YtbgfoobcpacfeaaWLib2
import Derived.Test.YtbgfoobcpacfeaaWCrc
import Derived.Test.YtbgfoobcpacfeaaWDec
namespace Go.Proofs.Ytbgfoobcpacfeaa
open Go.RowKit
set_option linter.unusedVariables false
set_option linter.unusedSimpArgs false

theorem put_mk {B : Nat} {W w : World} {v : Value} {l : List UInt8} (n x : Nat) (h : Mk B W w v l) (hn : n ≤ 8) (hx : x < 18446744073709551616) (hl : l.length + n ≤ 140737488355328) :
    Calls Try.prog 18 #[v, .int .i64 n, .int .u64 x] w fun e w' => ∃ v', e = .returned v' ∧ Mk B W w' v' (l ++ Wi.be n x) :=
  (put_calls n x h.own h.size hn hx hl).mono fun e w' ⟨v', he, ho, ha⟩ => ⟨v', he, h.grown ha.grown ho⟩
theorem refPut_mk {B : Nat} {W w : World} {v : Value} {l : List UInt8} (n x : Nat) (h : Mk B W w v l) (hn : n ≤ 8) (hx : x < 18446744073709551616) (hl : l.length + n ≤ 140737488355328) :
    Calls Try.prog 29 #[v, .int .u64 x, .int .i64 n] w fun e w' => ∃ v', e = .returned v' ∧ Mk B W w' v' (l ++ Wi.be n x) :=
  (refPut_calls n x h.own h.size hn hx hl).mono fun e w' ⟨v', he, ho, ha⟩ => ⟨v', he, h.grown ha.grown ho⟩

/-- A number in bytes of its own, beside the row. -/
theorem put_beside {B : Nat} {W w : World} {v : Value} {l : List UInt8} (n x : Nat) (h : Mk B W w v l) (hn : n ≤ 8) (hx : x < 18446744073709551616) :
    Calls Try.prog 18 #[.slice none 0 0, .int .i64 n, .int .u64 x] w fun e w' => ∃ u, e = .returned u ∧ Mk B W w' v l ∧ RB w' u (Wi.be n x) :=
  (put_calls n x (OB.nil_ w.heap.size w) (Nat.le_refl _) hn hx (by simp; omega)).mono fun e w' ⟨v', he, ho, ha⟩ =>
    ⟨v', he, h.behind (ha.belowB (fun k hk => by cases hk) (Nat.le_refl _)), by simpa using ho.rb⟩


set_option maxRecDepth 100000 in
set_option maxHeartbeats 4000000 in
theorem encodeFrame_kind {w : World} {v : Value} (x : Wi.Fr) (h : RB w v x.pay) (hk : Wi.kindOk x.kind = false) :
    Calls Try.prog 7 #[.agg (frameC x v)] w fun e w' => e = .returned (.tuple #[.slice none 0 0, .int .i64 74]) ∧ Below w.heap.size w w' := by
  go_enter Try.func7, Try.ntmps7
  go_wp2_with fail
  refine (frameKind_calls _ x.kind).out.mono ?_
  rintro e w1 ⟨rfl, hb1⟩
  go_wp2_with fail
  go_ret2
  exact ⟨rfl, (below_alloc1 w _).trans (hb1.mono (by simp))⟩

set_option maxRecDepth 100000 in
set_option maxHeartbeats 4000000 in
theorem encodeFrame_body {w : World} {v : Value} (x : Wi.Fr) (h : RB w v x.pay) (hk : Wi.kindOk x.kind = true) (hc : Wi.carries x.kind x.pay.length = false) :
    Calls Try.prog 7 #[.agg (frameC x v)] w fun e w' => e = .returned (.tuple #[.slice none 0 0, .int .i64 75]) ∧ Below w.heap.size w w' := by
  obtain ⟨p, c, rfl, h1, h2, h3, hr⟩ := h
  go_enter Try.func7, Try.ntmps7
  go_wp2_with fail
  refine (frameKind_calls _ x.kind).out.mono ?_
  rintro e w1 ⟨rfl, hb1⟩
  obtain ⟨hc1, hf1⟩ := bcell hb1
  go_wp2_with fail
  refine (carries_calls _ x.kind x.pay.length).out.mono ?_
  rintro e w2 ⟨rfl, hb2⟩
  go_wp2_with fail
  go_ret2
  exact ⟨rfl, ((below_alloc1 w _).trans (hb1.mono (by simp))).trans (hb2.mono (by have := hb1.size; simp at this; omega))⟩

theorem lit2 (k : Int) : #[Value.int .u8 (k % 256), .int .u8 1] = ([Wi.kindByte k, 1].map bv).toArray := by
  have h : ((k % 256).toNat : Int) = k % 256 := Int.toNat_of_nonneg (by omega)
  show _ = #[bv _, bv 1]
  unfold Wi.kindByte
  rw [bv_of, h, show k % 256 % 256 = k % 256 by omega]
  rfl

set_option maxRecDepth 100000 in
set_option maxHeartbeats 8000000 in
theorem encodeFrame_good {w : World} {v : Value} (x : Wi.Fr) (h : RB w v x.pay) (hx : x.Ok) (hk : Wi.kindOk x.kind = true) (hc : Wi.carries x.kind x.pay.length = true) :
    Calls Try.prog 7 #[.agg (frameC x v)] w fun e w' => ∃ v', e = .returned (.tuple #[v', .int .i64 0]) ∧ OB w.heap.size w' v' (Wi.enc x) ∧ Below w.heap.size w w' := by
  have hn2 : x.pay.length ≤ 2048 := by
    simp only [Wi.carries, Bool.and_eq_true, decide_eq_true_eq] at hc
    exact hc.2
  obtain ⟨p, c, rfl, h1, h2, h3, hr⟩ := h
  have hB0 : w.heap.size + 1 ≤ (w.alloc (.cells (frameC x (.slice p x.pay.length c)) 25)).heap.size := by simp
  have hrW : RB (w.alloc (.cells (frameC x (.slice p x.pay.length c)) 25)) (.slice p x.pay.length c) x.pay := RB.below ⟨p, c, rfl, h1, h2, h3, hr⟩ (below_alloc1 w _)
  have hvW : x.pay ≠ [] → ∀ g, (Value.slice p x.pay.length c).ownBlock = some g → g < w.heap.size + 1 := fun hl g e => Nat.lt_succ_of_lt (RB.block ⟨p, c, rfl, h1, h2, h3, hr⟩ hl g e)
  go_enter Try.func7, Try.ntmps7
  go_wp2_with fail
  refine (frameKind_calls _ x.kind).out.mono ?_
  rintro e w1 ⟨rfl, hb1⟩
  rw [World.size_alloc] at hb1
  obtain ⟨hc1, hf1⟩ := bcellB hb1
  go_wp2_with fail
  refine (carries_calls _ x.kind x.pay.length).out.mono ?_
  rintro e w2 ⟨rfl, hb2⟩
  replace hb2 := hb1.trans (hb2.mono (by have := hb1.size; simpa using this))
  clear hb1 hc1 hf1
  obtain ⟨hc2, hf2⟩ := bcellB hb2
  go_wp2_with fail
  refine (put_mk 2 21062 (Mk.nil_ hB0 hb2) (by decide) (by decide) (by decide)).mono ?_
  rintro e w3 ⟨v1, rfl, hm1⟩
  clear hc2 hf2 hb2
  obtain ⟨hc3, hf3⟩ := bcellB hm1.below
  have Hl := Lib.hid (lit2 x.kind)
  go_wp2_with (first
    | (at_builtin
       refine wpList_append_Mk v1 _ (.tmp 19) (.tmp 23) rfl rfl rfl rfl rfl (hm1.alloc _) (RB.lit _ _ [Wi.kindByte x.kind, 1] 2 Hl.out rfl (by simp)) (by simp [Wi.be_length]) ?_
       intro v2 w4 hm2
       obtain ⟨hc4, hf4⟩ := bcellB hm2.below)
    | fail)
  have h4 := heap_new w4 (.cells #[.int .u32 x.from_, .int .u32 x.to, .int .u32 x.seq, .int .u32 x.ack] 22) w4.heap.size rfl
  have hm2' := hm2.alloc (.cells #[.int .u32 x.from_, .int .u32 x.to, .int .u32 x.seq, .int .u32 x.ack] 22)
  have hne2 : v2.ownBlock ≠ some w4.heap.size := fun e => Nat.lt_irrefl _ (hm2.own.lt _ e).2
  have hfs : ∀ q ∈ [x.from_, x.to, x.seq, x.ack], q < 4294967296 := by
    obtain ⟨a1, a2, a3, a4⟩ := hx
    intro q hq
    simp only [List.mem_cons, List.not_mem_nil, or_false] at hq
    rcases hq with rfl | rfl | rfl | rfl <;> assumption
  have hcs : ∀ (i q : Nat), [x.from_, x.to, x.seq, x.ack][i]? = some q → (#[Value.int .u32 x.from_, .int .u32 x.to, .int .u32 x.seq, .int .u32 x.ack] : Array Value)[i]? = some (.int .u32 q) := by
    intro i q h
    match i, h with
    | 0, h => cases h; rfl
    | 1, h => cases h; rfl
    | 2, h => cases h; rfl
    | 3, h => cases h; rfl
  have hF : ([x.from_, x.to, x.seq, x.ack] : List Nat).length = 4 := rfl
  have HF : Hid (Wi.head x = [] ++ Wi.be 2 21062 ++ [Wi.kindByte x.kind, 1] ++ [x.from_, x.to, x.seq, x.ack].flatMap (Wi.be 4) ++ Wi.be 2 x.pay.length) := by
    show _ = _
    simp [Wi.head, Wi.be]
  generalize [x.from_, x.to, x.seq, x.ack] = fs at *
  generalize (#[Value.int .u32 x.from_, .int .u32 x.to, .int .u32 x.seq, .int .u32 x.ack] : Array Value) = cs at *
  generalize w4.heap.size = g4 at *
  generalize w4.alloc (.cells cs 22) = w5 at *
  clear hc4 hf4 hm2 hc3 hf3 hm1
  generalize ehd : [] ++ Wi.be 2 21062 ++ [Wi.kindByte x.kind, 1] = hd at *
  have Hhd := Lib.hid ehd
  clear ehd
  have hhd : hd.length = 4 := by rw [← Hhd.out]; rfl
  refine wp_loop_count (fun i a w' => ∃ v', (∃ U : Nat → Value, a = ⟨#[.agg (frameC x (.slice p x.pay.length c)), .pointer (some ⟨w.heap.size, 0, none⟩), .slice none 0 0, .int .i64 0, v', U 5, U 6, U 7, U 8, U 9, U 10, U 11, U 12, U 13, U 14, U 15, U 16, U 17, U 18, U 19, U 20, U 21, U 22, U 23, U 24, U 25, U 26, U 27, U 28, U 29, U 30, U 31, U 32, .slice (some ⟨g4, 0, none⟩) 4 4, .int .i64 4, .int .i64 i, U 36, U 37, U 38, U 39, U 40, U 41, U 42, U 43, U 44, U 45, U 46, U 47, U 48, U 49, U 50, U 51, U 52, U 53, U 54, U 55, U 56, U 57, U 58, U 59, U 60, U 61, U 62], []⟩) ∧ Mk (w.heap.size + 1) (w.alloc (.cells (frameC x (.slice p x.pay.length c)) 25)) w' v' (hd ++ (fs.take i).flatMap (Wi.be 4)) ∧ w'.heap[g4]? = some (.cells cs 22 (0, 0)) ∧ v'.ownBlock ≠ some g4) 4 ⟨v2, exU (fun U => ⟨#[.agg (frameC x (.slice p x.pay.length c)), .pointer (some ⟨w.heap.size, 0, none⟩), .slice none 0 0, .int .i64 0, v2, U 5, U 6, U 7, U 8, U 9, U 10, U 11, U 12, U 13, U 14, U 15, U 16, U 17, U 18, U 19, U 20, U 21, U 22, U 23, U 24, U 25, U 26, U 27, U 28, U 29, U 30, U 31, U 32, .slice (some ⟨g4, 0, none⟩) 4 4, .int .i64 4, .int .i64 0, U 36, U 37, U 38, U 39, U 40, U 41, U 42, U 43, U 44, U 45, U 46, U 47, U 48, U 49, U 50, U 51, U 52, U 53, U 54, U 55, U 56, U 57, U 58, U 59, U 60, U 61, U 62], []⟩) rfl, by simpa using hm2', h4, hne2⟩ ?_ ?_
  · rintro i a w' hi ⟨v', ⟨U, rfl⟩, hm, hb4, hne⟩
    obtain ⟨q, hq⟩ : ∃ q, fs[i]? = some q := ⟨fs[i], List.getElem?_eq_getElem (by omega)⟩
    have hq32 := hfs q (List.mem_of_getElem? hq)
    have hcell : w'.cell? ⟨g4, i, none⟩ = some (.int .u32 q) := (has_cell hb4 i).trans (hcs i q hq)
    have hi' : (i : Int) < 4 := by exact_mod_cast hi
    have hi0 : (0 : Int) ≤ (i : Int) := Int.natCast_nonneg i
    have Hn := Lib.hid (Wi.take_next hq)
    have hfl : ((fs.take i).flatMap (Wi.be 4)).length ≤ 16 := by
      rw [Wi.flat_length, List.length_take]; omega
    clear hfs hcs hq
    go_wp2_with fail
    refine (put_calls 4 q hm.own hm.size (by decide) (by omega) (by rw [List.length_append]; omega)).mono ?_
    rintro e w6 ⟨v6, rfl, ho6, ha6⟩
    go_wp2_with fail
    refine ⟨v6, exU (fun U => ⟨#[.agg (frameC x (.slice p x.pay.length c)), .pointer (some ⟨w.heap.size, 0, none⟩), .slice none 0 0, .int .i64 0, v6, U 5, U 6, U 7, U 8, U 9, U 10, U 11, U 12, U 13, U 14, U 15, U 16, U 17, U 18, U 19, U 20, U 21, U 22, U 23, U 24, U 25, U 26, U 27, U 28, U 29, U 30, U 31, U 32, .slice (some ⟨g4, 0, none⟩) 4 4, .int .i64 4, .int .i64 (i + 1 : Nat), U 36, U 37, U 38, U 39, U 40, U 41, U 42, U 43, U 44, U 45, U 46, U 47, U 48, U 49, U 50, U 51, U 52, U 53, U 54, U 55, U 56, U 57, U 58, U 59, U 60, U 61, U 62], []⟩) rfl, ?_, ?_, ?_⟩
    · rw [Hn.out, List.flatMap_append, ← List.append_assoc]
      simpa using hm.grown ha6.grown ho6
    · exact (ha6.grown.block _ (heap_lt hb4) (fun e => hne e.symm)).trans hb4
    · rcases ha6.at_ with e | ⟨g, e, hg⟩
      · rw [e]; exact hne
      · rw [e]; intro e'; injection e' with e'; have := heap_lt hb4; omega
  · rintro a w' ⟨v', ⟨U, rfl⟩, hm, hb4, hne⟩
    obtain ⟨hc5, hf5⟩ := bcellB hm.below
    rw [List.take_of_length_le (by omega)] at hm
    clear hfs hcs h4 hm2' hne2 hb4 hne
    have hfl : (fs.flatMap (Wi.be 4)).length = 16 := by
      rw [Wi.flat_length]; omega
    go_wp2_with fail
    refine (put_mk 2 x.pay.length hm (by decide) (by omega) (by rw [List.length_append]; omega)).mono ?_
    rintro e w7 ⟨v7, rfl, hm7⟩
    rw [← HF.out] at hm7
    clear hc5 hf5
    go_wp2_with fail
    refine Ph.wp_region_P (RMa (w.heap.size + 1) (w.alloc (.cells (frameC x (.slice p x.pay.length c)) 25)) v7 (Wi.head x) (Wi.head x ++ Wi.be 4 0)) (fun i => i == 1) 4 [0, 2, 3, 1] (by kernel_rfl) (by kernel_rfl) (hm7.behind (Below.drew (Below.refl _ _))) ?_
    (repeat (first | (refine Ph.wpP_pass rfl rfl rfl ?_; (try simp only [List.getElem_toArray, List.getElem_cons_succ, List.getElem_cons_zero, Act.put, List.setIfInBounds_toArray, List.set_cons_succ, List.set_cons_zero])) | (apply Ph.wpP_val rfl rfl rfl; (focus (intro t w1 hR; have hc := bcellB (RMa.below hR); (try simp only [List.getElem_toArray, List.getElem_cons_succ, List.getElem_cons_zero]); (try go_simp); (try exact Eq.refl _); done)); (try simp only [List.getElem_toArray, List.getElem_cons_succ, List.getElem_cons_zero, Act.put, List.setIfInBounds_toArray, List.set_cons_succ, List.set_cons_zero])) | (apply Ph.wpP_call RMa.mono rfl rfl rfl; (focus (intro t w1 hR; have hc := bcellB (RMa.below hR); (try simp only [List.getElem_toArray, List.getElem_cons_succ, List.getElem_cons_zero]); (try go_simp); (try exact And.intro rfl rfl); done)); (focus (intro t w1 hR; first | fail)); (try simp only [List.getElem_toArray, List.getElem_cons_succ, List.getElem_cons_zero, Act.put, List.setIfInBounds_toArray, List.set_cons_succ, List.set_cons_zero])) | (apply Ph.wpP_val_want rfl rfl rfl; (focus (intro t w1 hR; have hc := bcellB (RMa.below hR); (try simp only [List.getElem_toArray, List.getElem_cons_succ, List.getElem_cons_zero]); (try go_simp); (try exact Eq.refl _); done)); (try simp only [List.getElem_toArray, List.getElem_cons_succ, List.getElem_cons_zero, Act.put, List.setIfInBounds_toArray, List.set_cons_succ, List.set_cons_zero])) | (apply Ph.wpP_call_want RMa.mono rfl rfl rfl; (focus (intro t w1 hR; have hc := bcellB (RMa.below hR); (try simp only [List.getElem_toArray, List.getElem_cons_succ, List.getElem_cons_zero]); (try go_simp); (try exact And.intro rfl rfl); done)); (focus (intro t w1 hR; first | fail)); (try simp only [List.getElem_toArray, List.getElem_cons_succ, List.getElem_cons_zero, Act.put, List.setIfInBounds_toArray, List.set_cons_succ, List.set_cons_zero]))))
    have hhl := Wi.head_length x
    (apply Ph.wpP_write_call rfl rfl rfl; (focus (intro w1 hR; have hc := bcellB (RMa.below hR); (try simp only [List.getElem_toArray, List.getElem_cons_succ, List.getElem_cons_zero]); (try go_simp); (try exact And.intro rfl rfl); done)); (focus (intro w1 hR; exact put_mk 4 0 hR (by decide) (by decide) (by omega))))
    rintro v8 w8 -
    (try simp only [List.getElem_toArray, List.getElem_cons_succ, List.getElem_cons_zero, Act.put, List.setIfInBounds_toArray, List.set_cons_succ, List.set_cons_zero])
    refine Ph.wpP_nil ?_
    intro w9 hm9
    have hm9 : Mk (w.heap.size + 1) (w.alloc (.cells (frameC x (.slice p x.pay.length c)) 25)) w9 v8 (Wi.head x ++ Wi.be 4 0) := hm9
    have hpay : RB w9 (.slice p x.pay.length c) x.pay := hm9.keep hrW hvW
    have hlen9 : (Wi.head x ++ Wi.be 4 0).length + x.pay.length ≤ 140737488355328 := by rw [List.length_append, Wi.be_length, hhl]; omega
    clear hhl
    simp only [List.drop_succ_cons, List.drop_zero]
    refine wpList_append_Mk v8 _ (.tmp 51) (.tmp 53) rfl rfl rfl rfl rfl hm9 hpay hlen9 ?_
    intro v10 w10 hm10
    obtain ⟨hc10, hf10⟩ := bcellB hm10.below
    go_wp2_with fail
    have hm11 : Mk (w.heap.size + 1) (w.alloc (.cells (frameC x (.slice p x.pay.length c)) 25)) w10 v10 (Wi.framed x 0) := hm10
    clear hm10 hc10 hf10
    obtain ⟨g10, cap10, rfl, -, -, hcap, hcm, -, -⟩ := hm11.own.form (by intro e; have := Wi.framed_length x 0; rw [e] at this; simp at this; omega)
    have hfl0 := Wi.framed_length x 0
    have hmx : maxLen = 9223372036854775807 := rfl
    rw [hmx] at hcm
    generalize (Wi.framed x 0).length = L10 at *
    have hcrc := Wi.crcMore_lt 0 (Wi.framed x 0)
    have Hfl0 := Lib.hid hfl0
    have hL26 : 26 ≤ L10 := by omega
    have hL22 : (22 : Int) ≤ (L10 : Int) := by omega
    have hne22 : ¬ (cap10 = 22) := by omega
    clear hfl0
    have hwr : IntKind.u64.wrap ((Wi.crcMore 0 (Wi.framed x 0) : Nat) : Int) = ((Wi.crcMore 0 (Wi.framed x 0) : Nat) : Int) := by
      simp only [IntKind.wrap, IntKind.bits, IntKind.signed]; simp; omega
    have Henc : Hid (Wi.enc x = Wi.framed x (Wi.crcMore 0 (Wi.framed x 0))) := rfl
    refine Ph.wp_region_P (RMb (w.heap.size + 1) (w.alloc (.cells (frameC x (.slice p x.pay.length c)) 25)) (.slice (some ⟨g10, 0, none⟩) L10 cap10) (Wi.framed x 0) (Wi.be 4 (Wi.crcMore 0 (Wi.framed x 0)))) (fun i => i == 5) 6 [0, 1, 2, 3, 4, 5] (by kernel_rfl) (by kernel_rfl) (hm11.behind (Below.drew (Below.refl _ _))) ?_
    (repeat (first | (refine Ph.wpP_pass rfl rfl rfl ?_; (try simp only [List.getElem_toArray, List.getElem_cons_succ, List.getElem_cons_zero, Act.put, List.setIfInBounds_toArray, List.set_cons_succ, List.set_cons_zero])) | (apply Ph.wpP_val rfl rfl rfl; (focus (intro t w1 hR; have hc := bcellB (RMb.below hR); (try simp only [List.getElem_toArray, List.getElem_cons_succ, List.getElem_cons_zero]); (try go_simp); (try exact Eq.refl _); done)); (try simp only [List.getElem_toArray, List.getElem_cons_succ, List.getElem_cons_zero, Act.put, List.setIfInBounds_toArray, List.set_cons_succ, List.set_cons_zero])) | (apply Ph.wpP_call RMb.mono rfl rfl rfl; (focus (intro t w1 hR; have hc := bcellB (RMb.below hR); (try simp only [List.getElem_toArray, List.getElem_cons_succ, List.getElem_cons_zero]); (try go_simp); (try exact And.intro rfl rfl); done)); (focus (intro t w1 hR; first | exact crc_calls (RMb.row hR).rb)); (try simp only [List.getElem_toArray, List.getElem_cons_succ, List.getElem_cons_zero, Act.put, List.setIfInBounds_toArray, List.set_cons_succ, List.set_cons_zero])) | (apply Ph.wpP_val_want rfl rfl rfl; (focus (intro t w1 hR; have hc := bcellB (RMb.below hR); (try simp only [List.getElem_toArray, List.getElem_cons_succ, List.getElem_cons_zero]); (try go_simp); (try exact Eq.refl _); done)); (try simp only [List.getElem_toArray, List.getElem_cons_succ, List.getElem_cons_zero, Act.put, List.setIfInBounds_toArray, List.set_cons_succ, List.set_cons_zero])) | (apply Ph.wpP_call_want RMb.mono rfl rfl rfl; (focus (intro t w1 hR; have hc := bcellB (RMb.below hR); (try simp only [List.getElem_toArray, List.getElem_cons_succ, List.getElem_cons_zero]); (try go_simp); (try exact And.intro rfl rfl); done)); (focus (intro t w1 hR; first | exact crc_calls (RMb.row hR).rb)); (try simp only [List.getElem_toArray, List.getElem_cons_succ, List.getElem_cons_zero, Act.put, List.setIfInBounds_toArray, List.set_cons_succ, List.set_cons_zero]))))
    generalize Wi.crcMore 0 (Wi.framed x 0) = sm at *
    have hb4 := Wi.be_length 4 sm
    have hsm64 : sm < 18446744073709551616 := by omega
    (apply Ph.wpP_write_call rfl rfl rfl; (focus (intro w1 hR; have hc := bcellB (RMb.below hR); (try simp only [List.getElem_toArray, List.getElem_cons_succ, List.getElem_cons_zero]); (try go_simp); (try exact And.intro rfl rfl); done)); (focus (intro w1 hR; exact put_beside 4 sm hR (by decide) hsm64)))
    rintro v12 w12 -
    (try simp only [List.getElem_toArray, List.getElem_cons_succ, List.getElem_cons_zero, Act.put, List.setIfInBounds_toArray, List.set_cons_succ, List.set_cons_zero])
    refine Ph.wpP_nil ?_
    intro w13 hm13
    have hm13 : Mk (w.heap.size + 1) (w.alloc (.cells (frameC x (.slice p x.pay.length c)) 25)) w13 (.slice (some ⟨g10, 0, none⟩) L10 cap10) (Wi.framed x 0) ∧ RB w13 v12 (Wi.be 4 sm) := hm13
    simp only [List.drop_succ_cons, List.drop_zero]
    refine wpList_copy_Mk g10 L10 cap10 22 _ (.tmp 56) (.tmp 60) rfl rfl rfl rfl rfl hm13.1 hm13.2 (by rw [Wi.framed_length, hb4]; omega) (by rw [hb4]; omega) ?_
    intro w14 hm14
    rw [Wi.framed_laid] at hm14
    clear hm13
    go_wp2_with fail
    go_ret2
    rw [Henc.out]
    refine ⟨_, rfl, hm14.own.more (by omega), ?_⟩
    exact (below_alloc1 w _).trans (hm14.below.mono (by omega))
end Go.Proofs.Ytbgfoobcpacfeaa
