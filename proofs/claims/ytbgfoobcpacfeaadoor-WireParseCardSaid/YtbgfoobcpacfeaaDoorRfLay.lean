/- The document's own reading: a number laid into a packet. (Printed by wip/w7gen/mkrflay.py.) -/
import Derived.Test.YtbgfoobcpacfeaaDoorPk8
import Derived.Test.YtbgfoobcpacfeaaDoorRfSm2
namespace Go.Proofs.YtbgfoobcpacfeaaDoor
open Go.RowKit
set_option maxRecDepth 100000
set_option linter.unusedVariables false
set_option linter.unusedSimpArgs false

set_option maxHeartbeats 16000000 in
theorem rlay_calls {w : World} {pv : Value} {p : Wi.Pk} (hp : p.Ok) (hone : pv.oneCell' = true) (k : Nat) (hk5 : k < 5) (x : Nat) (hx : x < 4294967296) : Pur Tryd.prog 91 #[.agg (pkL p pv).toArray, .int .i64 (2 ^ k : Nat), .int .i64 x] w (.agg (pkL (p.setNum k x) pv).toArray) := by
  unfold Pur
  have hq : (p.setNum k x).Ok := hp.setNum k hx
  have hb1 := below_alloc1 w (.cells (pkL p pv).toArray 34)
  have hbx : PkAt (w.alloc (.cells (pkL p pv).toArray 34)) w.heap.size p pv := heap_new w (.cells (pkL p pv).toArray 34) w.heap.size rfl
  have hs1 : (w.alloc (.cells (pkL p pv).toArray 34)).heap.size = w.heap.size + 1 := by simp
  have wx : IntKind.u32.wrap ((x : Nat) : Int) = ((x : Nat) : Int) := by simp only [IntKind.wrap, IntKind.bits, IntKind.signed]; simp; omega
  generalize hcs : (pkL p pv).toArray = cs at hb1 hbx hs1 ⊢
  obtain ⟨F, hF0⟩ : ∃ F : Nat, F = 2 ^ k := ⟨_, rfl⟩
  rw [← hF0]
  go_enter Tryd.func91, Tryd.ntmps91
  go_upto_region 0 with fail
  rename_i hnext
  refine wp_region_lit ?_
  refine Og.st_start (n := 34) rfl fun a1 hF => ?_
  refine Og.st_val (w' := w.alloc (.cells cs 34)) (.pointer (some ⟨w.heap.size, 0, none⟩)) hF rfl rfl (by decide) (box_pk rfl rfl w) fun a1 hF => ?_
  generalize w.alloc (.cells cs 34) = w1 at *
  refine Og.st_val (w' := w1.alloc (.cells (pkL (Wi.Pk.zero 0) (.slice none 0 0)).toArray 34)) (.pointer (some ⟨w1.heap.size, 0, none⟩)) hF rfl rfl (by decide) (alloc_pk rfl w1) fun a1 hF => ?_
  have hb2 := below_alloc1 w1 (.cells (pkL (Wi.Pk.zero 0) (.slice none 0 0)).toArray 34)
  have hz2 : PkAt (w1.alloc (.cells (pkL (Wi.Pk.zero 0) (.slice none 0 0)).toArray 34)) w1.heap.size (Wi.Pk.zero 0) (.slice none 0 0) := heap_new w1 _ _ rfl
  generalize w1.alloc (.cells (pkL (Wi.Pk.zero 0) (.slice none 0 0)).toArray 34) = w2 at *
  rw [hs1] at *
  have hP2 := hbx.belowB (by omega) hb2
  have hb02 := hb1.trans (hb2.mono (Nat.le_succ _))
  refine wpList_nil ?_
  obtain ⟨U, rfl⟩ := Og.Fr.lit_ex hF (fun U => ⟨#[.agg cs, .int .i64 F, .int .i64 x, .pointer (some ⟨w.heap.size, 0, none⟩), U 4, U 5, .pointer (some ⟨w.heap.size + 1, 0, none⟩), U 7, U 8, U 9, U 10, U 11, U 12, U 13, U 14, U 15, U 16, U 17, U 18, U 19, U 20, U 21, U 22, U 23, U 24, U 25, U 26, U 27, U 28, U 29, U 30, U 31, U 32, U 33], []⟩) (by kernel_rfl)
  clear hF
  refine hnext _ _ ?_
  clear hnext
  have hP3 := hP2.store (offOf k) [.int .u32 x] (p.setNum k x) pv (set_num p pv k x)
  have hlt2 := hP2.lt
  clear hcs hbx
  rcases k with _ | _ | _ | _ | _ | k'
  · have hF1 : F = 1 := hF0
    clear hF0 hk5
    subst hF1
    have hc := hP2.c1
    have hfz : w2.frozen? ⟨w.heap.size, 1, none⟩ = false := by simp [World.frozen?, show w2.heap[w.heap.size]? = _ from hP2]
    replace hP3 : PkAt (w2.setCells w.heap.size 1 [.int .u32 x]) w.heap.size (p.setNum (0 : Nat) x) pv := hP3
    have hgs := setCells_grown w2 w.heap.size 1 [.int .u32 x]
    have hz3 : PkAt (w2.setCells w.heap.size 1 [.int .u32 x]) (w.heap.size + 1) (Wi.Pk.zero 0) (.slice none 0 0) := hz2.grown hgs (fun e => by injection e; omega)
    have hb3 : Below w.heap.size w (w2.setCells w.heap.size 1 [.int .u32 x]) := hb02.grown hgs hb02.size (fun k hk => by injection hk with hk; omega)
    go_upto_region 12 with fail
    rename_i hnext
    show Code.wp _ _ _ _ (w2.setCells w.heap.size 1 [.int .u32 x])
    generalize w2.setCells w.heap.size 1 [.int .u32 x] = w3 at *
    refine wp_region_lit ?_
    refine Og.st_start (n := 34) rfl fun a1 hF => ?_
    refine Og.st_same (.agg (pkL (p.setNum (0 : Nat) x) pv).toArray) hF rfl rfl (by decide) (Og.exec_load rfl (load_pk hP3 hq)) fun a1 hF => ?_
    refine Og.st_skip (w' := w3.setCells (w.heap.size + 1) 0 (pkL (p.setNum (0 : Nat) x) pv)) hF rfl rfl
      (exec_store (o := 0) (vs := pkL (p.setNum (0 : Nat) x) pv) (cs := pkL (Wi.Pk.zero 0) (.slice none 0 0)) rfl rfl rfl hz3 (by rw [pkL_length hq, pkL_length (Wi.Pk.zero_ok 0)]; decide) (by rw [pkL_length hq]; exact pk_i) (pkL_one (p.setNum (0 : Nat) x) pv hone)) fun a1 hF => ?_
    have hP4 := PkAt.store hz3 0 _ (p.setNum (0 : Nat) x) pv (set_all hq (Wi.Pk.zero_ok 0))
    have hgs4 := setCells_grown w3 (w.heap.size + 1) 0 (pkL (p.setNum (0 : Nat) x) pv)
    have hb4 : Below w.heap.size w (w3.setCells (w.heap.size + 1) 0 (pkL (p.setNum (0 : Nat) x) pv)) := hb3.grown hgs4 hb3.size (fun k hk => by injection hk with hk; omega)
    generalize w3.setCells (w.heap.size + 1) 0 (pkL (p.setNum (0 : Nat) x) pv) = w4 at *
    refine wpList_nil ?_
    refine hnext _ _ (wp_ret ?_)
    (try simp only [Exit.inBlock, Exit.then])
    refine bodyPost_ret (results_cellAt rfl (hF.2.2 6) (by simpa [Instr.loadAt, Instr.sureAddr] using load_pk hP4 hq)) hF.1 ?_
    exact ⟨rfl, hb4⟩
  · have hF1 : F = 2 := hF0
    clear hF0 hk5
    subst hF1
    have hc := hP2.c2
    have hfz : w2.frozen? ⟨w.heap.size, 2, none⟩ = false := by simp [World.frozen?, show w2.heap[w.heap.size]? = _ from hP2]
    replace hP3 : PkAt (w2.setCells w.heap.size 2 [.int .u32 x]) w.heap.size (p.setNum (1 : Nat) x) pv := hP3
    have hgs := setCells_grown w2 w.heap.size 2 [.int .u32 x]
    have hz3 : PkAt (w2.setCells w.heap.size 2 [.int .u32 x]) (w.heap.size + 1) (Wi.Pk.zero 0) (.slice none 0 0) := hz2.grown hgs (fun e => by injection e; omega)
    have hb3 : Below w.heap.size w (w2.setCells w.heap.size 2 [.int .u32 x]) := hb02.grown hgs hb02.size (fun k hk => by injection hk with hk; omega)
    go_upto_region 12 with fail
    rename_i hnext
    show Code.wp _ _ _ _ (w2.setCells w.heap.size 2 [.int .u32 x])
    generalize w2.setCells w.heap.size 2 [.int .u32 x] = w3 at *
    refine wp_region_lit ?_
    refine Og.st_start (n := 34) rfl fun a1 hF => ?_
    refine Og.st_same (.agg (pkL (p.setNum (1 : Nat) x) pv).toArray) hF rfl rfl (by decide) (Og.exec_load rfl (load_pk hP3 hq)) fun a1 hF => ?_
    refine Og.st_skip (w' := w3.setCells (w.heap.size + 1) 0 (pkL (p.setNum (1 : Nat) x) pv)) hF rfl rfl
      (exec_store (o := 0) (vs := pkL (p.setNum (1 : Nat) x) pv) (cs := pkL (Wi.Pk.zero 0) (.slice none 0 0)) rfl rfl rfl hz3 (by rw [pkL_length hq, pkL_length (Wi.Pk.zero_ok 0)]; decide) (by rw [pkL_length hq]; exact pk_i) (pkL_one (p.setNum (1 : Nat) x) pv hone)) fun a1 hF => ?_
    have hP4 := PkAt.store hz3 0 _ (p.setNum (1 : Nat) x) pv (set_all hq (Wi.Pk.zero_ok 0))
    have hgs4 := setCells_grown w3 (w.heap.size + 1) 0 (pkL (p.setNum (1 : Nat) x) pv)
    have hb4 : Below w.heap.size w (w3.setCells (w.heap.size + 1) 0 (pkL (p.setNum (1 : Nat) x) pv)) := hb3.grown hgs4 hb3.size (fun k hk => by injection hk with hk; omega)
    generalize w3.setCells (w.heap.size + 1) 0 (pkL (p.setNum (1 : Nat) x) pv) = w4 at *
    refine wpList_nil ?_
    refine hnext _ _ (wp_ret ?_)
    (try simp only [Exit.inBlock, Exit.then])
    refine bodyPost_ret (results_cellAt rfl (hF.2.2 6) (by simpa [Instr.loadAt, Instr.sureAddr] using load_pk hP4 hq)) hF.1 ?_
    exact ⟨rfl, hb4⟩
  · have hF1 : F = 4 := hF0
    clear hF0 hk5
    subst hF1
    have hc := hP2.c3
    have hfz : w2.frozen? ⟨w.heap.size, 3, none⟩ = false := by simp [World.frozen?, show w2.heap[w.heap.size]? = _ from hP2]
    replace hP3 : PkAt (w2.setCells w.heap.size 3 [.int .u32 x]) w.heap.size (p.setNum (2 : Nat) x) pv := hP3
    have hgs := setCells_grown w2 w.heap.size 3 [.int .u32 x]
    have hz3 : PkAt (w2.setCells w.heap.size 3 [.int .u32 x]) (w.heap.size + 1) (Wi.Pk.zero 0) (.slice none 0 0) := hz2.grown hgs (fun e => by injection e; omega)
    have hb3 : Below w.heap.size w (w2.setCells w.heap.size 3 [.int .u32 x]) := hb02.grown hgs hb02.size (fun k hk => by injection hk with hk; omega)
    go_upto_region 12 with fail
    rename_i hnext
    show Code.wp _ _ _ _ (w2.setCells w.heap.size 3 [.int .u32 x])
    generalize w2.setCells w.heap.size 3 [.int .u32 x] = w3 at *
    refine wp_region_lit ?_
    refine Og.st_start (n := 34) rfl fun a1 hF => ?_
    refine Og.st_same (.agg (pkL (p.setNum (2 : Nat) x) pv).toArray) hF rfl rfl (by decide) (Og.exec_load rfl (load_pk hP3 hq)) fun a1 hF => ?_
    refine Og.st_skip (w' := w3.setCells (w.heap.size + 1) 0 (pkL (p.setNum (2 : Nat) x) pv)) hF rfl rfl
      (exec_store (o := 0) (vs := pkL (p.setNum (2 : Nat) x) pv) (cs := pkL (Wi.Pk.zero 0) (.slice none 0 0)) rfl rfl rfl hz3 (by rw [pkL_length hq, pkL_length (Wi.Pk.zero_ok 0)]; decide) (by rw [pkL_length hq]; exact pk_i) (pkL_one (p.setNum (2 : Nat) x) pv hone)) fun a1 hF => ?_
    have hP4 := PkAt.store hz3 0 _ (p.setNum (2 : Nat) x) pv (set_all hq (Wi.Pk.zero_ok 0))
    have hgs4 := setCells_grown w3 (w.heap.size + 1) 0 (pkL (p.setNum (2 : Nat) x) pv)
    have hb4 : Below w.heap.size w (w3.setCells (w.heap.size + 1) 0 (pkL (p.setNum (2 : Nat) x) pv)) := hb3.grown hgs4 hb3.size (fun k hk => by injection hk with hk; omega)
    generalize w3.setCells (w.heap.size + 1) 0 (pkL (p.setNum (2 : Nat) x) pv) = w4 at *
    refine wpList_nil ?_
    refine hnext _ _ (wp_ret ?_)
    (try simp only [Exit.inBlock, Exit.then])
    refine bodyPost_ret (results_cellAt rfl (hF.2.2 6) (by simpa [Instr.loadAt, Instr.sureAddr] using load_pk hP4 hq)) hF.1 ?_
    exact ⟨rfl, hb4⟩
  · have hF1 : F = 8 := hF0
    clear hF0 hk5
    subst hF1
    have hc := hP2.c4
    have hfz : w2.frozen? ⟨w.heap.size, 4, none⟩ = false := by simp [World.frozen?, show w2.heap[w.heap.size]? = _ from hP2]
    replace hP3 : PkAt (w2.setCells w.heap.size 4 [.int .u32 x]) w.heap.size (p.setNum (3 : Nat) x) pv := hP3
    have hgs := setCells_grown w2 w.heap.size 4 [.int .u32 x]
    have hz3 : PkAt (w2.setCells w.heap.size 4 [.int .u32 x]) (w.heap.size + 1) (Wi.Pk.zero 0) (.slice none 0 0) := hz2.grown hgs (fun e => by injection e; omega)
    have hb3 : Below w.heap.size w (w2.setCells w.heap.size 4 [.int .u32 x]) := hb02.grown hgs hb02.size (fun k hk => by injection hk with hk; omega)
    go_upto_region 12 with fail
    rename_i hnext
    show Code.wp _ _ _ _ (w2.setCells w.heap.size 4 [.int .u32 x])
    generalize w2.setCells w.heap.size 4 [.int .u32 x] = w3 at *
    refine wp_region_lit ?_
    refine Og.st_start (n := 34) rfl fun a1 hF => ?_
    refine Og.st_same (.agg (pkL (p.setNum (3 : Nat) x) pv).toArray) hF rfl rfl (by decide) (Og.exec_load rfl (load_pk hP3 hq)) fun a1 hF => ?_
    refine Og.st_skip (w' := w3.setCells (w.heap.size + 1) 0 (pkL (p.setNum (3 : Nat) x) pv)) hF rfl rfl
      (exec_store (o := 0) (vs := pkL (p.setNum (3 : Nat) x) pv) (cs := pkL (Wi.Pk.zero 0) (.slice none 0 0)) rfl rfl rfl hz3 (by rw [pkL_length hq, pkL_length (Wi.Pk.zero_ok 0)]; decide) (by rw [pkL_length hq]; exact pk_i) (pkL_one (p.setNum (3 : Nat) x) pv hone)) fun a1 hF => ?_
    have hP4 := PkAt.store hz3 0 _ (p.setNum (3 : Nat) x) pv (set_all hq (Wi.Pk.zero_ok 0))
    have hgs4 := setCells_grown w3 (w.heap.size + 1) 0 (pkL (p.setNum (3 : Nat) x) pv)
    have hb4 : Below w.heap.size w (w3.setCells (w.heap.size + 1) 0 (pkL (p.setNum (3 : Nat) x) pv)) := hb3.grown hgs4 hb3.size (fun k hk => by injection hk with hk; omega)
    generalize w3.setCells (w.heap.size + 1) 0 (pkL (p.setNum (3 : Nat) x) pv) = w4 at *
    refine wpList_nil ?_
    refine hnext _ _ (wp_ret ?_)
    (try simp only [Exit.inBlock, Exit.then])
    refine bodyPost_ret (results_cellAt rfl (hF.2.2 6) (by simpa [Instr.loadAt, Instr.sureAddr] using load_pk hP4 hq)) hF.1 ?_
    exact ⟨rfl, hb4⟩
  · have hF1 : F = 16 := hF0
    clear hF0 hk5
    subst hF1
    have hc := hP2.c5
    have hfz : w2.frozen? ⟨w.heap.size, 5, none⟩ = false := by simp [World.frozen?, show w2.heap[w.heap.size]? = _ from hP2]
    replace hP3 : PkAt (w2.setCells w.heap.size 5 [.int .u32 x]) w.heap.size (p.setNum (4 : Nat) x) pv := hP3
    have hgs := setCells_grown w2 w.heap.size 5 [.int .u32 x]
    have hz3 : PkAt (w2.setCells w.heap.size 5 [.int .u32 x]) (w.heap.size + 1) (Wi.Pk.zero 0) (.slice none 0 0) := hz2.grown hgs (fun e => by injection e; omega)
    have hb3 : Below w.heap.size w (w2.setCells w.heap.size 5 [.int .u32 x]) := hb02.grown hgs hb02.size (fun k hk => by injection hk with hk; omega)
    go_upto_region 12 with fail
    rename_i hnext
    show Code.wp _ _ _ _ (w2.setCells w.heap.size 5 [.int .u32 x])
    generalize w2.setCells w.heap.size 5 [.int .u32 x] = w3 at *
    refine wp_region_lit ?_
    refine Og.st_start (n := 34) rfl fun a1 hF => ?_
    refine Og.st_same (.agg (pkL (p.setNum (4 : Nat) x) pv).toArray) hF rfl rfl (by decide) (Og.exec_load rfl (load_pk hP3 hq)) fun a1 hF => ?_
    refine Og.st_skip (w' := w3.setCells (w.heap.size + 1) 0 (pkL (p.setNum (4 : Nat) x) pv)) hF rfl rfl
      (exec_store (o := 0) (vs := pkL (p.setNum (4 : Nat) x) pv) (cs := pkL (Wi.Pk.zero 0) (.slice none 0 0)) rfl rfl rfl hz3 (by rw [pkL_length hq, pkL_length (Wi.Pk.zero_ok 0)]; decide) (by rw [pkL_length hq]; exact pk_i) (pkL_one (p.setNum (4 : Nat) x) pv hone)) fun a1 hF => ?_
    have hP4 := PkAt.store hz3 0 _ (p.setNum (4 : Nat) x) pv (set_all hq (Wi.Pk.zero_ok 0))
    have hgs4 := setCells_grown w3 (w.heap.size + 1) 0 (pkL (p.setNum (4 : Nat) x) pv)
    have hb4 : Below w.heap.size w (w3.setCells (w.heap.size + 1) 0 (pkL (p.setNum (4 : Nat) x) pv)) := hb3.grown hgs4 hb3.size (fun k hk => by injection hk with hk; omega)
    generalize w3.setCells (w.heap.size + 1) 0 (pkL (p.setNum (4 : Nat) x) pv) = w4 at *
    refine wpList_nil ?_
    refine hnext _ _ (wp_ret ?_)
    (try simp only [Exit.inBlock, Exit.then])
    refine bodyPost_ret (results_cellAt rfl (hF.2.2 6) (by simpa [Instr.loadAt, Instr.sureAddr] using load_pk hP4 hq)) hF.1 ?_
    exact ⟨rfl, hb4⟩
  · omega
end Go.Proofs.YtbgfoobcpacfeaaDoor
