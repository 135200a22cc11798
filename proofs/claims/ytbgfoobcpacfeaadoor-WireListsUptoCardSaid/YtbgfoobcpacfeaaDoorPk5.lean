/- Walks and plain laws of the packets and frames, joined from: WSt, WMove, WMove2, WEqG, WEncP, WEncP2, WRdr, WRead, WRdr2, Gs. -/
import Derived.Test.YtbgfoobcpacfeaaDoorPk4
import Derived.Deep.MidRow
import Derived.Deep.Upon
import Derived.Deep.DeepCutAuto
import Derived.Maps.AppendAt
import Derived.Laws.BitsAllLaws
import Derived.BigQuiet
/- Stores into a block: one cell or a range, by the block's cells. A packet's fields laid. -/
namespace Go.Proofs.YtbgfoobcpacfeaaDoor
open Go.RowKit
set_option maxRecDepth 100000
set_option linter.unusedVariables false
set_option linter.unusedSimpArgs false

/-- The cells with others laid over from a place on. -/
def setAll : List Value → Nat → List Value → List Value
  | cs, _, [] => cs
  | cs, o, v :: r => setAll (cs.set o v) (o + 1) r
theorem setAll_length : ∀ (vs cs : List Value) (o : Nat), (setAll cs o vs).length = cs.length
  | [], _, _ => rfl
  | v :: r, cs, o => by rw [setAll, setAll_length r]; simp
theorem setAll_over : ∀ (vs a old z : List Value), old.length = vs.length → setAll (a ++ (old ++ z)) a.length vs = a ++ (vs ++ z)
  | [], a, old, z, h => by
    have : old = [] := List.eq_nil_of_length_eq_zero h
    subst this; rfl
  | v :: r, a, x :: old, z, h => by
    rw [setAll]
    have e : (a ++ (x :: old ++ z)).set a.length v = (a ++ [v]) ++ (old ++ z) := by simp
    have := setAll_over r (a ++ [v]) old z (by simpa using h)
    rw [List.length_append, List.length_singleton] at this
    rw [e, this]
    simp
section
variable {P : Program} {w : World} {b : Nat} {ty : TypeId}
theorem setCells_heap : ∀ (vs : List Value) (o : Nat) (w : World) (cs : List Value), w.heap[b]? = some (.cells cs.toArray ty (0, 0)) → (w.setCells b o vs).heap[b]? = some (.cells (setAll cs o vs).toArray ty (0, 0))
  | [], _, _, _, h => h
  | v :: r, o, w, cs, h => by
    rw [World.setCells, setAll]
    refine setCells_heap r (o + 1) _ _ ?_
    have hlt := heap_lt h
    have hv : w.heap[b] = .cells cs.toArray ty (0, 0) := (Array.getElem?_eq_some_iff.1 h).2
    unfold World.setCell
    rw [Array.getElem?_eq_getElem (by simpa using hlt), Array.getElem_modify]
    simp [hv]
theorem setCells_grown (w : World) (b o : Nat) (vs : List Value) : w.grownBy (w.setCells b o vs) (some b) := by
  have h := World.keptBut_setCells b (may := fun _ => True) vs o w (fun _ _ => trivial)
  refine ⟨World.os_setCells w b o vs, ?_, World.output_setCells w b o vs, ?_, fun k hk hne => World.heap_setCells_other w b o vs hk (fun e => hne (by rw [e]))⟩
  · clear h
    induction vs generalizing o w with
    | nil => rfl
    | cons v r ih => rw [World.setCells, ih]; rfl
  · clear h
    induction vs generalizing o w with
    | nil => exact Nat.le_refl _
    | cons v r ih =>
      rw [World.setCells]
      refine Nat.le_trans ?_ (ih _ _)
      unfold World.setCell
      simp
theorem run_storeAt_cells (o : Nat) (T : TypeId) (v : Value) (vs cs : List Value) (hv : v.cells = vs.toArray) (hk : w.heap[b]? = some (.cells cs.toArray ty (0, 0))) (hle : o + vs.length ≤ cs.length) (hi : (P.info? T).map (·.size) = some vs.length) (h1 : ∀ u ∈ vs, u.oneCell' = true) :
    (Instr.storeAt T (.pointer (some ⟨b, o, none⟩)) v).run P w = .ok () (w.setCells b o vs) := by
  have hcell : ∀ j, j < vs.length → (w.cell? ⟨b, o + j, none⟩).isSome = true := fun j hj => by
    rw [has_cell hk]; simp; omega
  have hfz : ∀ j, j < vs.length → w.frozen? ⟨b, o + j, none⟩ = false := fun j hj => by simp [World.frozen?, hk]
  have := run_storeCells_cells (P := P) b o vs 0 w (fun j hj => by simpa using hcell j hj) (fun j hj => by simpa using hfz j hj) h1
  cases hq : P.info? T with
  | none => simp [hq] at hi
  | some i =>
    have hs : vs.length = i.size := by simp [hq] at hi; omega
    simp only [Nat.add_zero] at this
    simp [Instr.storeAt, Instr.sureAddr, storeVar, sizeOf, typeInfo, hq, hv, hs, this]
theorem exec_store {ρ : Operand → Value} {op : Oper} {x y : Operand} {T : TypeId} {o : Nat} {vs cs : List Value} (ho : op.op = .store T x y) (hx : ρ x = .pointer (some ⟨b, o, none⟩)) (hv : (ρ y).cells = vs.toArray) (hk : w.heap[b]? = some (.cells cs.toArray ty (0, 0))) (hle : o + vs.length ≤ cs.length) (hi : (P.info? T).map (·.size) = some vs.length) (h1 : ∀ u ∈ vs, u.oneCell' = true) :
    (execOp ρ op).run P w = .ok .skip (w.setCells b o vs) := by
  unfold execOp
  rw [ho]
  simp only [hx]
  have := run_storeAt_cells (P := P) o T (ρ y) vs cs hv hk hle hi h1
  simp [this]
theorem wpList_store_cells {ops : Array Oper} {rest : List Oper} {op : Oper} {a : Act} {Q : Exit → Act → World → Prop} {x y : Operand} {T : TypeId} (b o : Nat) (vs cs : List Value) (hgd : op.guard = none) (ho : op.op = .store T x y) (hx : a.eval x = .pointer (some ⟨b, o, none⟩)) (hv : (a.eval y).cells = vs.toArray) (hk : w.heap[b]? = some (.cells cs.toArray ty (0, 0))) (hle : o + vs.length ≤ cs.length) (hi : (P.info? T).map (·.size) = some vs.length) (h1 : ∀ u ∈ vs, u.oneCell' = true)
    (h : wpList P ops Q rest (a.put op.dst undef) (w.setCells b o vs)) : wpList P ops Q (op :: rest) a w := by
  refine wpList_plain hgd fun K hK => ?_
  unfold Oper.wp
  rw [exec_store ho hx hv hk hle hi h1]
  exact hK _ _ h
end

section
variable {w : World} {b : Nat} {p : Wi.Pk} {v : Value}
/-- A packet whose block was stored into. -/
theorem PkAt.store (h : PkAt w b p v) (o : Nat) (vs : List Value) (q : Wi.Pk) (u : Value) (he : setAll (pkL p v) o vs = pkL q u) : PkAt (w.setCells b o vs) b q u := by
  have := setCells_heap vs o w _ h
  rw [he] at this
  exact this
theorem set_num (p : Wi.Pk) (v : Value) (k : Int) (x : Nat) : setAll (pkL p v) (offOf k) [.int .u32 x] = pkL (p.setNum k x) v := by
  unfold offOf Wi.Pk.setNum
  repeat' split
  all_goals rfl
theorem set_gens (p : Wi.Pk) (v : Value) (a b c d : Nat) : setAll (pkL p v) 6 [.int .u64 a, .int .u64 b, .int .u64 c, .int .u64 d] = pkL { p with g1 := a, g2 := b, g3 := c, g4 := d } v := rfl
theorem set_sum (p : Wi.Pk) (v : Value) (s : List UInt8) (hp : p.sum.length = s.length) : setAll (pkL p v) 10 (s.map bv) = pkL { p with sum := s } v :=
  setAll_over (s.map bv) [.int .i64 p.cmd, .int .u32 p.id, .int .u32 p.block, .int .u32 p.epoch, .int .u32 p.count, .int .u32 p.flags, .int .u64 p.g1, .int .u64 p.g2, .int .u64 p.g3, .int .u64 p.g4] (p.sum.map bv) [v] (by simpa using hp)
theorem set_data (p : Wi.Pk) (v u : Value) (l : List UInt8) (hp : p.Ok) : setAll (pkL p v) 42 [u] = pkL { p with data := l } u := by
  have := setAll_over [u] ([.int .i64 p.cmd, .int .u32 p.id, .int .u32 p.block, .int .u32 p.epoch, .int .u32 p.count, .int .u32 p.flags, .int .u64 p.g1, .int .u64 p.g2, .int .u64 p.g3, .int .u64 p.g4] ++ p.sum.map bv) [v] [] rfl
  rw [show ([.int .i64 p.cmd, .int .u32 p.id, .int .u32 p.block, .int .u32 p.epoch, .int .u32 p.count, .int .u32 p.flags, .int .u64 p.g1, .int .u64 p.g2, .int .u64 p.g3, .int .u64 p.g4] ++ p.sum.map bv : List Value).length = 42 by simp [hp.sum]] at this
  simpa [pkL] using this
theorem pkL_one (p : Wi.Pk) (v : Value) (hv : v.oneCell' = true) : ∀ u ∈ pkL p v, u.oneCell' = true := by
  intro u hu
  simp only [pkL, List.mem_cons, List.mem_append, List.mem_map, List.not_mem_nil, or_false] at hu
  rcases hu with rfl | rfl | rfl | rfl | rfl | rfl | rfl | rfl | rfl | rfl | ⟨x, _, rfl⟩ | rfl
  all_goals first | rfl | exact hv
theorem pk_t : Tryd.prog.underlying 34 = some (.struct (Tryd.prog.fieldsOf 34)) := by kernel_rfl
theorem pk_i : (Tryd.prog.info? 34).map (·.size) = some 43 := by kernel_rfl
theorem load_pk {w : World} {b : Nat} {p : Wi.Pk} {v : Value} (h : PkAt w b p v) (hp : p.Ok) : (Instr.loadAt 34 (.pointer (some ⟨b, 0, none⟩))).run Tryd.prog w = .ok (.agg (pkL p v).toArray) w := by
  exact run_loadAt_mid w b 0 _ (pkL p v) _ (fun j u hu => by rw [Nat.zero_add, h.cell]; exact hu) pk_t rfl (by rw [pk_i, pkL_length hp])
theorem alloc_pk {ρ : Operand → Value} {o : Oper} (ho : o.op = .alloc 34) (w : World) : (execOp ρ o).run Tryd.prog w = .ok (.value (.pointer (some ⟨w.heap.size, 0, none⟩))) (w.alloc (.cells (pkL (Wi.Pk.zero 0) (.slice none 0 0)).toArray 34)) := by
  unfold execOp
  rw [ho]
  kernel_rfl
theorem set_all {p q : Wi.Pk} {u v : Value} (hp : p.Ok) (hq : q.Ok) : setAll (pkL q u) 0 (pkL p v) = pkL p v := by
  have := setAll_over (pkL p v) [] (pkL q u) [] (by rw [pkL_length hp, pkL_length hq])
  simpa using this
end
end Go.Proofs.YtbgfoobcpacfeaaDoor

/- The fields' move: what a field holds goes from one packet into another. (Printed by wip/w7gen/mkmove.py.) -/
namespace Go.Proofs.YtbgfoobcpacfeaaDoor
open Go.RowKit
set_option maxRecDepth 100000
set_option linter.unusedVariables false
set_option linter.unusedSimpArgs false

/-- The packet at b has lost the field; nothing else has turned. -/
theorem load_gens {w : World} {b : Nat} {p : Wi.Pk} {v : Value} (h : PkAt w b p v) : (Instr.loadAt 30 (.pointer (some ⟨b, 6, none⟩))).run Tryd.prog w = .ok (.agg #[.int .u64 p.g1, .int .u64 p.g2, .int .u64 p.g3, .int .u64 p.g4]) w := by
  have h1 := h.c6
  have h2 := h.c7
  have h3 := h.c8
  have h4 := h.c9
  go_simp
theorem load_data {w : World} {b : Nat} {p : Wi.Pk} {v : Value} (h : PkAt w b p v) (hp : p.Ok) : (Instr.loadAt 32 (.pointer (some ⟨b, 42, none⟩))).run Tryd.prog w = .ok v w := by
  have h1 := h.cd hp
  go_simp
theorem grown_trans {w w1 w2 : World} {r : Option Nat} (h : w.grownBy w1 r) (k : w1.grownBy w2 r) : w.grownBy w2 r :=
  ⟨k.os.trans h.os, k.tape.trans h.tape, k.output.trans h.output, Nat.le_trans h.size k.size, fun i hi hne => (k.block i (Nat.lt_of_lt_of_le hi h.size) hne).trans (h.block i hi hne)⟩
theorem post_end0 {P : Program} {fn : Func} {R : Ending → World → Prop} {a : Act} {w : World} (hr : fn.results = #[]) (hd : a.defers = []) (hR : R (.returned (.tuple #[])) w) : bodyPost P fn R .normal a w :=
  ⟨hd, _, by simp [results, hr], hR⟩
theorem bv_one (l : List UInt8) : ∀ u ∈ l.map bv, u.oneCell' = true := fun u hu => by
  obtain ⟨x, _, rfl⟩ := List.mem_map.1 hu
  rfl
theorem u64_one (a b c d : Int) : ∀ u ∈ [Value.int .u64 a, .int .u64 b, .int .u64 c, .int .u64 d], u.oneCell' = true := by
  intro u hu
  simp only [List.mem_cons, List.not_mem_nil, or_false] at hu
  rcases hu with rfl | rfl | rfl | rfl <;> rfl
theorem slice_one (v : Value) (h : v.oneCell' = true) : ∀ u ∈ [v], u.oneCell' = true := by
  intro u hu
  simp only [List.mem_singleton] at hu
  subst hu
  exact h
def Moved (w : World) (b : Nat) (q : Wi.Pk) (u : Value) (e : Ending) (w' : World) : Prop := e = .returned (.tuple #[]) ∧ PkAt w' b q u ∧ w.grownBy w' (some b)

set_option maxHeartbeats 4000000 in
theorem move_gens {w : World} {b z : Nat} {q : Wi.Pk} {u : Value} (hz : PkAt w z (Wi.Pk.zero 0) (.slice none 0 0)) (hb : PkAt w b q u) (hq : q.Ok) (hne : z ≠ b) :
    Calls Tryd.prog 142 #[.agg #[], .pointer (some ⟨z, 0, none⟩), .pointer (some ⟨b, 0, none⟩)] w (Moved w b (Wi.clearF q (.gens)) u) := by
  go_enter Tryd.func142, Tryd.ntmps142
  go_upto_region 1 with fail
  have hb1 := below_alloc1 w (.cells #[] 117)
  have hz1 := hz.below hb1
  have hq1 := hb.below hb1
  obtain ⟨W, hW⟩ : ∃ W, W = w.alloc (.cells #[] 117) := ⟨_, rfl⟩
  rw [← hW] at hb1 hz1 hq1
  have hgw : w.grownBy W (some b) := by rw [hW]; exact World.grownBy_alloc w _ _
  refine wp_region_lit ?_
  refine Og.st_start (n := 13) rfl fun a hF => ?_
  have hWW : w.alloc (.cells #[] 117) = W := hW.symm
  rw [show w.alloc _ = W from hWW]
  refine Og.st_same (.pointer (some ⟨b, 0, none⟩)) hF rfl rfl (by decide) (by kernel_rfl) fun a hF => ?_
  refine Og.st_same (.pointer (some ⟨z, 0, none⟩)) hF rfl rfl (by decide) (by kernel_rfl) fun a hF => ?_
  refine Og.st_same (.pointer (some ⟨z, 0, none⟩)) hF rfl rfl (by decide) (by kernel_rfl) fun a hF => ?_
  refine Og.st_same (.pointer (some ⟨z, 6, none⟩)) hF rfl rfl (by decide) (by kernel_rfl) fun a hF => ?_
  refine Og.st_same (.agg #[.int .u64 (0 : Nat), .int .u64 (0 : Nat), .int .u64 (0 : Nat), .int .u64 (0 : Nat)]) hF rfl rfl (by decide) (Og.exec_load rfl (load_gens hz1)) fun a hF => ?_
  refine Og.st_same (.pointer (some ⟨b, 0, none⟩)) hF rfl rfl (by decide) (by kernel_rfl) fun a hF => ?_
  refine Og.st_same (.pointer (some ⟨b, 6, none⟩)) hF rfl rfl (by decide) (by kernel_rfl) fun a hF => ?_
  refine Og.st_skip (w' := W.setCells b 6 [.int .u64 (0 : Nat), .int .u64 (0 : Nat), .int .u64 (0 : Nat), .int .u64 (0 : Nat)]) hF rfl rfl (exec_store (o := 6) (vs := [.int .u64 (0 : Nat), .int .u64 (0 : Nat), .int .u64 (0 : Nat), .int .u64 (0 : Nat)]) (cs := pkL q u) rfl (by kernel_rfl) (by kernel_rfl) hq1 (by rw [pkL_length hq]; decide) (by kernel_rfl) (u64_one _ _ _ _)) fun a hF => ?_
  refine wpList_nil ?_
  have hfin : PkAt (W.setCells b 6 [.int .u64 (0 : Nat), .int .u64 (0 : Nat), .int .u64 (0 : Nat), .int .u64 (0 : Nat)]) b (Wi.clearF q (.gens)) u := hq1.store 6 [.int .u64 (0 : Nat), .int .u64 (0 : Nat), .int .u64 (0 : Nat), .int .u64 (0 : Nat)] _ _ (set_gens q u 0 0 0 0)
  have hgf : w.grownBy (W.setCells b 6 [.int .u64 (0 : Nat), .int .u64 (0 : Nat), .int .u64 (0 : Nat), .int .u64 (0 : Nat)]) (some b) := grown_trans hgw (setCells_grown W b 6 [.int .u64 (0 : Nat), .int .u64 (0 : Nat), .int .u64 (0 : Nat), .int .u64 (0 : Nat)])
  exact post_end0 rfl hF.1 ⟨rfl, hfin, hgf⟩

set_option maxHeartbeats 4000000 in
theorem move_sum {w : World} {b z : Nat} {q : Wi.Pk} {u : Value} (f : FuncId) (hz : PkAt w z (Wi.Pk.zero 0) (.slice none 0 0)) (hb : PkAt w b q u) (hq : q.Ok) (hne : z ≠ b) :
    Calls Tryd.prog 140 #[.agg #[fnV f], .pointer (some ⟨z, 0, none⟩), .pointer (some ⟨b, 0, none⟩)] w (Moved w b (Wi.clearF q (.sum f)) u) := by
  go_enter Tryd.func140, Tryd.ntmps140
  go_upto_region 1 with fail
  have hb1 := below_alloc1 w (.cells #[fnV f] 113)
  have hz1 := hz.below hb1
  have hq1 := hb.below hb1
  obtain ⟨W, hW⟩ : ∃ W, W = w.alloc (.cells #[fnV f] 113) := ⟨_, rfl⟩
  rw [← hW] at hb1 hz1 hq1
  have hgw : w.grownBy W (some b) := by rw [hW]; exact World.grownBy_alloc w _ _
  obtain ⟨zs, hzs⟩ : ∃ zs, zs = Wi.zeros := ⟨_, rfl⟩
  have hld : (Instr.loadAt 31 (.pointer (some ⟨z, 10, none⟩))).run Tryd.prog W = .ok (.agg (zs.map bv).toArray) W := by rw [hzs]; exact load_sum hz1 (Wi.Pk.zero_ok 0)
  have hset : setAll (pkL q u) 10 (zs.map bv) = pkL (Wi.clearF q (.sum f)) u := by rw [hzs]; exact set_sum q u Wi.zeros hq.sum
  have hzl : zs.length = 32 := by rw [hzs]; rfl
  clear hzs
  refine wp_region_lit ?_
  refine Og.st_start (n := 13) rfl fun a hF => ?_
  have hWW : w.alloc (.cells #[fnV f] 113) = W := hW.symm
  rw [show w.alloc _ = W from hWW]
  refine Og.st_same (.pointer (some ⟨b, 0, none⟩)) hF rfl rfl (by decide) (by kernel_rfl) fun a hF => ?_
  refine Og.st_same (.pointer (some ⟨z, 0, none⟩)) hF rfl rfl (by decide) (by kernel_rfl) fun a hF => ?_
  refine Og.st_same (.pointer (some ⟨z, 0, none⟩)) hF rfl rfl (by decide) (by kernel_rfl) fun a hF => ?_
  refine Og.st_same (.pointer (some ⟨z, 10, none⟩)) hF rfl rfl (by decide) (by kernel_rfl) fun a hF => ?_
  refine Og.st_same (.agg (zs.map bv).toArray) hF rfl rfl (by decide) (Og.exec_load rfl hld) fun a hF => ?_
  refine Og.st_same (.pointer (some ⟨b, 0, none⟩)) hF rfl rfl (by decide) (by kernel_rfl) fun a hF => ?_
  refine Og.st_same (.pointer (some ⟨b, 10, none⟩)) hF rfl rfl (by decide) (by kernel_rfl) fun a hF => ?_
  refine Og.st_skip (w' := W.setCells b 10 (zs.map bv)) hF rfl rfl (exec_store (o := 10) (vs := (zs.map bv)) (cs := pkL q u) rfl (by kernel_rfl) (by kernel_rfl) hq1 (by rw [pkL_length hq, List.length_map, hzl]; decide) (by rw [List.length_map, hzl]; exact sm_i) (bv_one zs)) fun a hF => ?_
  refine wpList_nil ?_
  have hfin : PkAt (W.setCells b 10 (zs.map bv)) b (Wi.clearF q (.sum f)) u := hq1.store 10 (zs.map bv) _ _ (hset)
  have hgf : w.grownBy (W.setCells b 10 (zs.map bv)) (some b) := grown_trans hgw (setCells_grown W b 10 (zs.map bv))
  exact post_end0 rfl hF.1 ⟨rfl, hfin, hgf⟩

set_option maxHeartbeats 4000000 in
theorem move_dat {w : World} {b z : Nat} {q : Wi.Pk} {u : Value} (f : FuncId) (hz : PkAt w z (Wi.Pk.zero 0) (.slice none 0 0)) (hb : PkAt w b q u) (hq : q.Ok) (hne : z ≠ b) :
    Calls Tryd.prog 141 #[.agg #[fnV f], .pointer (some ⟨z, 0, none⟩), .pointer (some ⟨b, 0, none⟩)] w (Moved w b (Wi.clearF q (.dat f)) (.slice none 0 0)) := by
  go_enter Tryd.func141, Tryd.ntmps141
  go_upto_region 1 with fail
  have hb1 := below_alloc1 w (.cells #[fnV f] 115)
  have hz1 := hz.below hb1
  have hq1 := hb.below hb1
  obtain ⟨W, hW⟩ : ∃ W, W = w.alloc (.cells #[fnV f] 115) := ⟨_, rfl⟩
  rw [← hW] at hb1 hz1 hq1
  have hgw : w.grownBy W (some b) := by rw [hW]; exact World.grownBy_alloc w _ _
  refine wp_region_lit ?_
  refine Og.st_start (n := 13) rfl fun a hF => ?_
  have hWW : w.alloc (.cells #[fnV f] 115) = W := hW.symm
  rw [show w.alloc _ = W from hWW]
  refine Og.st_same (.pointer (some ⟨b, 0, none⟩)) hF rfl rfl (by decide) (by kernel_rfl) fun a hF => ?_
  refine Og.st_same (.pointer (some ⟨z, 0, none⟩)) hF rfl rfl (by decide) (by kernel_rfl) fun a hF => ?_
  refine Og.st_same (.pointer (some ⟨z, 0, none⟩)) hF rfl rfl (by decide) (by kernel_rfl) fun a hF => ?_
  refine Og.st_same (.pointer (some ⟨z, 42, none⟩)) hF rfl rfl (by decide) (by kernel_rfl) fun a hF => ?_
  refine Og.st_same (.slice none 0 0) hF rfl rfl (by decide) (Og.exec_load rfl (load_data hz1 (Wi.Pk.zero_ok 0))) fun a hF => ?_
  refine Og.st_same (.pointer (some ⟨b, 0, none⟩)) hF rfl rfl (by decide) (by kernel_rfl) fun a hF => ?_
  refine Og.st_same (.pointer (some ⟨b, 42, none⟩)) hF rfl rfl (by decide) (by kernel_rfl) fun a hF => ?_
  refine Og.st_skip (w' := W.setCells b 42 [.slice none 0 0]) hF rfl rfl (exec_store (o := 42) (vs := [.slice none 0 0]) (cs := pkL q u) rfl (by kernel_rfl) (by kernel_rfl) hq1 (by rw [pkL_length hq]; decide) (by kernel_rfl) (slice_one _ rfl)) fun a hF => ?_
  refine wpList_nil ?_
  have hfin : PkAt (W.setCells b 42 [.slice none 0 0]) b (Wi.clearF q (.dat f)) (.slice none 0 0) := hq1.store 42 [.slice none 0 0] _ _ (set_data q u (.slice none 0 0) [] hq)
  have hgf : w.grownBy (W.setCells b 42 [.slice none 0 0]) (some b) := grown_trans hgw (setCells_grown W b 42 [.slice none 0 0])
  exact post_end0 rfl hF.1 ⟨rfl, hfin, hgf⟩
end Go.Proofs.YtbgfoobcpacfeaaDoor

/- move of a number. (Printed by wip/w7gen/mkmove2.py.) -/
namespace Go.Proofs.YtbgfoobcpacfeaaDoor
open Go.RowKit
set_option maxRecDepth 100000
set_option linter.unusedVariables false
set_option linter.unusedSimpArgs false

theorem at_enter : Og.Enters Tryd.prog 81 := fun args w => by kernel_rfl
theorem offOf_le (k : Int) : offOf k ≤ 5 := by unfold offOf; repeat' split
                                               all_goals decide
theorem zero_num (k : Int) : (Wi.Pk.zero 0).num k = 0 := by unfold Wi.Pk.num; repeat' split
                                                            all_goals rfl
set_option maxHeartbeats 8000000 in
theorem move_num {w : World} {b z : Nat} {q : Wi.Pk} {u : Value} (k : Int) (f : FuncId) (hz : PkAt w z (Wi.Pk.zero 0) (.slice none 0 0)) (hb : PkAt w b q u) (hq : q.Ok) (hne : z ≠ b) :
    Calls Tryd.prog 139 #[.agg #[.int .i64 k, fnV f], .pointer (some ⟨z, 0, none⟩), .pointer (some ⟨b, 0, none⟩)] w (Moved w b (Wi.clearF q (.num k f)) u) := by
  have hb1 := below_alloc1 w (.cells #[.int .i64 k, fnV f] 107)
  have hbx := heap_new w (.cells #[.int .i64 k, fnV f] 107) w.heap.size rfl
  go_enter Tryd.func139, Tryd.ntmps139
  go_wp2_with fail
  refine Og.wp_region_og _ (fun j => j == 11)
    (Og.Vt [.pointer (some ⟨b, 0, none⟩), .pointer (some ⟨w.heap.size, 0, none⟩), .int .i64 k, .pointer (some ⟨b, offOf k, none⟩), .pointer (some ⟨z, 0, none⟩), .pointer (some ⟨w.heap.size, 0, none⟩), .int .i64 k, .pointer (some ⟨z, offOf k, none⟩), .pointer (some ⟨z, offOf k, none⟩), .int .u32 (0 : Nat), .pointer (some ⟨b, offOf k, none⟩), undef] [(11, fun _ w' => PkAt w' b (q.setNum k 0) u ∧ w.grownBy w' (some b))])
    (fun w' => w'.heap[w.heap.size]? = some (.cells #[.int .i64 k, fnV f] 107 (0, 0)) ∧ PkAt w' z (Wi.Pk.zero 0) (.slice none 0 0))
    (fun j w' => j = 11 → PkAt w' b q u ∧ w.grownBy w' (some b)) 17 rfl (by kernel_rfl) (by kernel_rfl) ⟨hbx, (hz.below hb1).below (Below.drew (Below.refl _ _))⟩ (fun _ _ _ => ⟨(hb.below hb1).below (Below.drew (Below.refl _ _)), World.grownBy.trans (World.grownBy_alloc w _ (some b)) (below_grown (Below.drew (Below.refl _ _)))⟩) (Og.allOps ⟨?_, ?_, ?_, ?_, ?_, ?_, ?_, ?_, ?_, ?_, ?_, ?_, trivial⟩) ?_
  · refine Og.ok_val _ rfl rfl fun φ w2 hA => ?_
    have e2 : φ 2 = .pointer (some ⟨b, 0, none⟩) := hA.old 2 (by kernel_rfl)
    simp only [execOp, Og.ev, e2]
    go_simp
  · refine Og.ok_val _ rfl rfl fun φ w2 hA => ?_
    have e3 : φ 3 = .pointer (some ⟨w.heap.size, 0, none⟩) := hA.old 3 (by kernel_rfl)
    simp only [execOp, Og.ev, e3]
    go_simp
  · refine Og.ok_val _ rfl rfl fun φ w2 hA => ?_
    have e7 : φ 7 = .pointer (some ⟨w.heap.size, 0, none⟩) := hA.of 1 (d := 7) (by simp) rfl rfl
    have hc := has_cell hA.keep.1 0
    simp only [execOp, Og.ev, e7]
    go_simp
  · refine Og.ok_call_fn _ _ _ _ ?_ ?_ ?_ rfl rfl rfl fun φ w2 hA => ?_
    · intro x hx u' w3 w4 hu hb
      simp only [List.mem_cons, List.not_mem_nil, or_false] at hx
      subst hx
      exact ⟨hu.1.below hb, World.grownBy.trans hu.2 (below_grown hb)⟩
    · exact fun w3 w4 hR hb => ⟨blk_below hR.1 hb, hR.2.below hb⟩
    · exact fun j w3 w4 hT hb hj => ⟨(hT hj).1.below hb, World.grownBy.trans (hT hj).2 (below_grown hb)⟩
    · have e0 : φ 6 = .pointer (some ⟨b, 0, none⟩) := hA.of 0 (d := 6) (by simp) rfl rfl
      have e1 : φ 8 = .int .i64 k := hA.of 2 (d := 8) (by simp) rfl rfl
      exact ⟨_, #[.pointer (some ⟨b, 0, none⟩), .int .i64 k], at_enter, rfl, by simp [Og.ev, e0, e1], (at_calls w2 b k).out⟩
  · refine Og.ok_val _ rfl rfl fun φ w2 hA => ?_
    have e1 : φ 1 = .pointer (some ⟨z, 0, none⟩) := hA.old 1 (by kernel_rfl)
    simp only [execOp, Og.ev, e1]
    go_simp
  · refine Og.ok_val _ rfl rfl fun φ w2 hA => ?_
    have e3 : φ 3 = .pointer (some ⟨w.heap.size, 0, none⟩) := hA.old 3 (by kernel_rfl)
    simp only [execOp, Og.ev, e3]
    go_simp
  · refine Og.ok_val _ rfl rfl fun φ w2 hA => ?_
    have e11 : φ 11 = .pointer (some ⟨w.heap.size, 0, none⟩) := hA.of 5 (d := 11) (by simp) rfl rfl
    have hc := has_cell hA.keep.1 0
    simp only [execOp, Og.ev, e11]
    go_simp
  · refine Og.ok_call_fn _ _ _ _ ?_ ?_ ?_ rfl rfl rfl fun φ w2 hA => ?_
    · intro x hx u' w3 w4 hu hb
      simp only [List.mem_cons, List.not_mem_nil, or_false] at hx
      subst hx
      exact ⟨hu.1.below hb, World.grownBy.trans hu.2 (below_grown hb)⟩
    · exact fun w3 w4 hR hb => ⟨blk_below hR.1 hb, hR.2.below hb⟩
    · exact fun j w3 w4 hT hb hj => ⟨(hT hj).1.below hb, World.grownBy.trans (hT hj).2 (below_grown hb)⟩
    · have e0 : φ 10 = .pointer (some ⟨z, 0, none⟩) := hA.of 4 (d := 10) (by simp) rfl rfl
      have e1 : φ 12 = .int .i64 k := hA.of 6 (d := 12) (by simp) rfl rfl
      exact ⟨_, #[.pointer (some ⟨z, 0, none⟩), .int .i64 k], at_enter, rfl, by simp [Og.ev, e0, e1], (at_calls w2 z k).out⟩
  · refine Og.ok_val _ rfl rfl fun φ w2 hA => ?_
    have e13 : φ 13 = .pointer (some ⟨z, offOf k, none⟩) := hA.of 7 (d := 13) (by simp) rfl rfl
    simp only [execOp, Og.ev, e13]
    go_simp
  · refine Og.ok_val _ rfl rfl fun φ w2 hA => ?_
    have e14 : φ 14 = .pointer (some ⟨z, offOf k, none⟩) := hA.of 8 (d := 14) (by simp) rfl rfl
    have hc := hA.keep.2.num k
    rw [zero_num] at hc
    simp only [execOp, Og.ev, e14]
    go_simp
  · refine Og.ok_val _ rfl rfl fun φ w2 hA => ?_
    have e9 : φ 9 = .pointer (some ⟨b, offOf k, none⟩) := hA.of 3 (d := 9) (by simp) rfl rfl
    simp only [execOp, Og.ev, e9]
    go_simp
  · refine Og.ok_wskip _ rfl fun φ w2 hA => ?_
    have e16 : φ 16 = .pointer (some ⟨b, offOf k, none⟩) := hA.of 10 (d := 16) (by simp) rfl rfl
    have e15 : φ 15 = .int .u32 (0 : Nat) := hA.of 9 (d := 15) (by simp) rfl rfl
    obtain ⟨hbx, hzk⟩ := hA.keep
    obtain ⟨hpk, hgr⟩ := hA.tok rfl
    refine ⟨w2.setCells b (offOf k) [.int .u32 (0 : Nat)], exec_store (o := offOf k) (vs := [.int .u32 (0 : Nat)]) (cs := pkL q u) rfl (by simp only [Og.ev]; exact e16) (by simp only [Og.ev]; rw [e15]; rfl) hpk (by rw [pkL_length hq]; have := offOf_le k; simp; omega) (by kernel_rfl) (slice_one _ rfl), ?_, ?_, ?_, ?_⟩
    · exact ⟨blk_grown hbx (setCells_grown _ _ _ _) (fun e => by injection e with e; have := hb.lt; omega), hzk.grown (setCells_grown _ _ _ _) (fun e => hne (by injection e with e; exact e.symm))⟩
    · exact ⟨hpk.store _ _ _ _ (set_num q u k 0), World.grownBy.trans hgr (setCells_grown _ _ _ _)⟩
    · exact fun j hj hT hj2 => absurd (hj2 ▸ hj) (Bool.eq_false_iff.1 (by kernel_rfl))
    · intro x hx hn u' hu'
      simp only [List.mem_cons, List.not_mem_nil, or_false] at hx
      subst hx
      exact absurd hn (Bool.eq_false_iff.1 (by kernel_rfl))
  · intro φ a w2 hF hR h0 hV hN
    obtain ⟨_, h1, h2⟩ := hN 11 _ rfl rfl rfl
    exact post_end0 rfl hF.1 ⟨rfl, h1, h2⟩
end Go.Proofs.YtbgfoobcpacfeaaDoor

namespace Go.Proofs.YtbgfoobcpacfeaaDoor
open Go.RowKit
set_option maxRecDepth 100000
set_option linter.unusedVariables false
set_option linter.unusedSimpArgs false
theorem eql_gens (w : World) (a b c d : Nat) : (binOp .eql 30 (.agg #[.int .u64 a, .int .u64 b, .int .u64 c, .int .u64 d]) (.agg #[.int .u64 0, .int .u64 0, .int .u64 0, .int .u64 0])).run Tryd.prog w = .ok (.bool (decide (a = 0 ∧ b = 0 ∧ c = 0 ∧ d = 0))) w := by
  have e : ∀ x : Nat, (((x : Nat) : Int) = 0) = (x = 0) := fun x => by simp
  by_cases h1 : a = 0
  · by_cases h2 : b = 0
    · by_cases h3 : c = 0
      · by_cases h4 : d = 0
        · subst h1 h2 h3 h4; go_simp
        · have := e d; have h4' : ¬ ((d : Nat) : Int) = 0 := by simpa using h4
          subst h1 h2 h3; go_simp
      · have h3' : ¬ ((c : Nat) : Int) = 0 := by simpa using h3
        subst h1 h2; go_simp
    · have h2' : ¬ ((b : Nat) : Int) = 0 := by simpa using h2
      subst h1; go_simp
  · have h1' : ¬ ((a : Nat) : Int) = 0 := by simpa using h1
    go_simp
end Go.Proofs.YtbgfoobcpacfeaaDoor

/- The program's EncodePacket. (Printed by wip/w7gen/mkencp.py.) -/
namespace Go.Proofs.YtbgfoobcpacfeaaDoor
open Go.RowKit
set_option maxRecDepth 100000
set_option linter.unusedVariables false
set_option linter.unusedSimpArgs false

/-- Bytes lie elsewhere than what is no bytes. -/
theorem OB.off {B : Nat} {w : World} {v : Value} {l : List UInt8} (h : OB B w v l) {g : Nat} {cs : Array Value} {T : TypeId} {fz : Nat × Nat} (hk : w.heap[g]? = some (.cells cs T fz)) (hT : T ≠ 5) : v.ownBlock ≠ some g := fun e => by
  obtain ⟨cs3, fz3, e3⟩ := h.1.cellTy e
  rw [hk] at e3
  injection e3 with e3
  injection e3 with _ e4
  exact hT e4
theorem wr_len {p : Wi.Pk} (hp : p.Ok) (x : Fd) (hx : Wi.Fd.isDat x = false) : (Wi.wrF p x).length ≤ 32 := by
  cases x with
  | num k f => simp [Wi.wrF, Wi.be_length]
  | gens => simp [Wi.wrF, Wi.be_length]
  | sum f => simp [Wi.wrF, hp.sum]
  | dat f => cases hx
theorem wr_flat {p : Wi.Pk} (hp : p.Ok) : ∀ (fs : List Fd), (∀ x ∈ fs, Wi.Fd.isDat x = false) → (fs.flatMap (Wi.wrF p)).length ≤ 32 * fs.length
  | [], _ => by simp
  | x :: fs, h => by
    have h1 := wr_len hp x (h x (by simp))
    have h2 := wr_flat hp fs (fun y hy => h y (by simp [hy]))
    simp only [List.flatMap_cons, List.length_append, List.length_cons]
    omega
/-- Data comes last; there are at most five fields. -/
theorem dat_last : ∀ c ∈ cmdTab, c.2.length ≤ 5 ∧ ∀ x ∈ c.2.dropLast, Wi.Fd.isDat x = false := by decide
theorem foldl_ok : ∀ (fs : List Fd) (p : Wi.Pk), p.Ok → (fs.foldl Wi.clearF p).Ok
  | [], p, h => h
  | x :: fs, p, h => foldl_ok fs _ (Wi.clearF_ok h x)
/-- The loop of EncodePacket, behind i fields. -/
def EncI (w W : World) (p : Wi.Pk) (pv : Value) (g L : Nat) (fs : List Fd) (i : Nat) (a : Act) (w' : World) : Prop :=
  ∃ v u, (∃ U : Nat → Value, a = ⟨#[U 0, .pointer (some ⟨w.heap.size, 0, none⟩), U 2, U 3, .slice (some ⟨g, 0, none⟩) fs.length fs.length, v, .pointer (some ⟨L, 0, none⟩), U 7, U 8, U 9, U 10, U 11, U 12, U 13, U 14, U 15, U 16, U 17, U 18, U 19, U 20, U 21, U 22, U 23, U 24, .slice (some ⟨g, 0, none⟩) fs.length fs.length, .int .i64 fs.length, .int .i64 i, U 28, U 29, U 30, U 31, U 32, U 33, U 34, U 35, U 36, U 37, U 38, U 39, U 40, U 41, U 42, U 43, U 44, U 45, U 46, U 47, U 48, U 49, U 50, U 51, U 52, U 53, U 54, U 55, U 56, U 57, U 58, U 59, U 60, U 61, U 62, U 63, U 64, U 65, U 66, U 67, U 68, U 69, U 70, U 71, U 72, U 73, U 74, U 75, U 76, U 77, U 78, U 79, U 80, U 81, U 82, U 83, U 84], []⟩) ∧ (fs.take i).all (Wi.okF p) = true ∧
    OB (w.heap.size + 1) w' v (Wi.cmdByte p.cmd :: (fs.take i).flatMap (Wi.wrF p)) ∧ PkAt w' L ((fs.take i).foldl Wi.clearF p) u ∧ Below (w.heap.size + 1) W w' ∧ FldsAt w' g fs
theorem cmd_enter : Og.Enters Tryd.prog 40 := fun args w => by kernel_rfl

set_option maxHeartbeats 8000000 in
theorem encP_cmd {w : World} {pv : Value} {p : Wi.Pk} (hk : knownB p.cmd = false) :
    Calls Tryd.prog 20 #[.agg (pkL p pv).toArray] w fun e w' => e = .returned (.tuple #[.slice none 0 0, .int .i64 74]) ∧ Below w.heap.size w w' := by
  have hb1 := below_alloc1 w (.cells (pkL p pv).toArray 34)
  have hbx : PkAt (w.alloc (.cells (pkL p pv).toArray 34)) w.heap.size p pv := heap_new w (.cells (pkL p pv).toArray 34) w.heap.size rfl
  have hc0 := hbx.c0
  generalize hcs : (pkL p pv).toArray = cs at *
  go_enter Tryd.func20, Tryd.ntmps20
  go_wp2_with fail
  refine (known_calls _ p.cmd).out.mono ?_
  rintro e w1 ⟨rfl, hb⟩
  rw [hk]
  go_wp2_with fail
  go_ret2
  exact ⟨rfl, hb1.trans (hb.mono (by simp))⟩

set_option maxHeartbeats 8000000 in
theorem encP_known {w : World} {pv : Value} {p : Wi.Pk} (hk : knownB p.cmd = true) (hp : p.Ok) (hr : RB w pv p.data) (hS : Szs w) :
    Calls Tryd.prog 20 #[.agg (pkL p pv).toArray] w fun e w' => ∃ v, e = .returned (.tuple #[v, .int .i64 (Wi.packErr p)]) ∧ OB w.heap.size w' v (Wi.packOut p) ∧ Below w.heap.size w w' := by
  obtain ⟨h1, h2⟩ : 1 ≤ p.cmd ∧ p.cmd < 26 := by simpa [knownB] using hk
  obtain ⟨kk, c, hcmd, hk1, hc⟩ := cmd_some h1 h2
  have hb1 := below_alloc1 w (.cells (pkL p pv).toArray 34)
  have hbx : PkAt (w.alloc (.cells (pkL p pv).toArray 34)) w.heap.size p pv := heap_new w (.cells (pkL p pv).toArray 34) w.heap.size rfl
  have hc0 := hbx.c0
  have Hcs : Hid ((pkL p pv).toArray = (pkL p pv).toArray) := rfl
  generalize hcs : (pkL p pv).toArray = cs at hc0 hb1 ⊢
  go_enter Tryd.func20, Tryd.ntmps20
  go_wp2_with fail
  refine (known_calls _ kk).out.mono ?_
  rintro e w1 ⟨rfl, hb⟩
  rw [show knownB (kk : Nat) = true from hcmd ▸ hk]
  go_wp2_with fail
  rw [← hcs] at *
  refine Og.wp_region_og _ (fun j => j == 5)
    (Og.Vt [undef, .pointer (some ⟨w.heap.size, 0, none⟩), .int .i64 kk, undef, undef, undef] [(0, (fun u w' => ∃ n, u = .agg (cmdCells n).toArray ∧ CmdsAt (w.heap.size + 1) n w')), (3, (fun u w' => ∃ n, u = cmdE n kk c ∧ CmdsAt (w.heap.size + 1) n w')), (4, (fun u w' => ∃ g, u = .slice (some ⟨g, 0, none⟩) c.2.length c.2.length ∧ FldsAt w' g c.2 ∧ w.heap.size + 1 ≤ g)), (5, (fun u w' => ∃ g, u = .slice (some ⟨g, 0, none⟩) c.2.length c.2.length ∧ FldsAt w' g c.2 ∧ w.heap.size + 1 ≤ g))])
    (fun w' => Below (w.heap.size + 1) (w.alloc (.cells (pkL p pv).toArray 34)) w' ∧ w.heap.size + 1 ≤ w'.heap.size)
    (fun j w' => True) 85 rfl (by kernel_rfl) (by kernel_rfl) ⟨by have := hb; rw [World.size_alloc] at this; exact this.trans (Below.drew (Below.refl _ _)), by have := hb.size; simp at this ⊢; omega⟩ (fun _ _ => trivial) (Og.allOps ⟨?_, ?_, ?_, ?_, ?_, ?_, trivial⟩) ?_
  · refine Og.ok_gcall_fn _ _ _ _ ?_ ?_ ?_ rfl rfl fun φ w2 hA => ?_
    · intro x hx u' w3 w4 hu hb
      simp only [List.mem_cons, List.not_mem_nil, or_false] at hx
      rcases hx with rfl | rfl | rfl | rfl
      · obtain ⟨n, e, h⟩ := hu; exact ⟨n, e, h.below hb⟩
      · obtain ⟨n, e, h⟩ := hu; exact ⟨n, e, h.below hb⟩
      · obtain ⟨n, e, h, h'⟩ := hu; exact ⟨n, e, blk_below h hb, h'⟩
      · obtain ⟨n, e, h, h'⟩ := hu; exact ⟨n, e, blk_below h hb, h'⟩
    · exact fun w3 w4 hR hb => ⟨hR.1.trans (hb.mono hR.2), Nat.le_trans hR.2 hb.size⟩
    · exact fun j w3 w4 hT hb => trivial
    · refine ⟨_, #[], cmd_enter, rfl, by simp, (commands_calls w2).mono ?_⟩
      rintro e w3 ⟨n, rfl, hn, hb⟩
      exact ⟨_, rfl, ⟨n, rfl, fun i c hi hc => ⟨(hn i c hi hc).1, Nat.le_trans hA.keep.2 (hn i c hi hc).2⟩⟩, hb⟩
  · refine Og.ok_val _ rfl rfl fun φ w2 hA => ?_
    have e1 : φ 1 = .pointer (some ⟨w.heap.size, 0, none⟩) := hA.old 1 (by kernel_rfl)
    simp only [execOp, Og.ev, e1]
    go_simp
  · refine Og.ok_val _ rfl rfl fun φ w2 hA => ?_
    have e16 : φ 16 = .pointer (some ⟨w.heap.size, 0, none⟩) := hA.of 1 (d := 16) (by simp) rfl rfl
    have hc0 := (hbx.belowB (Nat.lt_succ_self _) hA.keep.1).c0
    rw [hcmd] at hc0
    simp only [execOp, Og.ev, e16]
    go_simp
  · refine Og.ok_wval _ rfl fun φ w2 hA => ?_
    obtain ⟨n, e15, hn⟩ := hA.of 0 (d := 15) (by simp) rfl rfl
    have e17 : φ 17 = .int .i64 kk := hA.of 2 (d := 17) (by simp) rfl rfl
    refine ⟨cmdE n kk c, w2, ?_, hA.keep, ⟨n, rfl, hn⟩, fun _ _ h => h, fun _ _ _ _ h => h⟩
    exact Og.exec_index rfl (by simp only [Og.ev]; rw [e15, e17]; exact cmd_index n w2 kk c hk1 hc)
  · refine Og.ok_wval _ rfl fun φ w2 hA => ?_
    obtain ⟨n, e18, hn⟩ := hA.of 3 (d := 18) (by simp) rfl rfl
    have h := hn kk c hk1 hc
    refine ⟨.slice (some ⟨n kk, 0, none⟩) c.2.length c.2.length, w2, ?_, hA.keep, ⟨n kk, rfl, h.1, h.2⟩, fun _ _ h => h, fun _ _ _ _ h => h⟩
    exact Og.exec_field rfl (by simp only [Og.ev]; rw [e18]; exact cmd_f1 w2 _ _)
  · exact Og.ok_wpass _ 19 rfl (.inr rfl) fun φ w2 hA => hA.of 4 (d := 19) (by simp) rfl rfl
  · rename_i hnext
    intro φ a w2 hF hR h0 hV hN
    obtain ⟨g, e4, hg, hgB⟩ := hV 5 _ 4 rfl rfl rfl
    have e1 : φ 1 = .pointer (some ⟨w.heap.size, 0, none⟩) := h0 1 (by kernel_rfl)
    have e2 : φ 2 = .slice none 0 0 := h0 2 (by kernel_rfl)
    have ea : ∃ U : Nat → Value, a = ⟨#[U 0, .pointer (some ⟨w.heap.size, 0, none⟩), U 2, U 3, .slice (some ⟨g, 0, none⟩) c.2.length c.2.length, U 5, U 6, U 7, U 8, U 9, U 10, U 11, U 12, U 13, U 14, U 15, U 16, U 17, U 18, U 19, U 20, U 21, U 22, U 23, U 24, U 25, U 26, U 27, U 28, U 29, U 30, U 31, U 32, U 33, U 34, U 35, U 36, U 37, U 38, U 39, U 40, U 41, U 42, U 43, U 44, U 45, U 46, U 47, U 48, U 49, U 50, U 51, U 52, U 53, U 54, U 55, U 56, U 57, U 58, U 59, U 60, U 61, U 62, U 63, U 64, U 65, U 66, U 67, U 68, U 69, U 70, U 71, U 72, U 73, U 74, U 75, U 76, U 77, U 78, U 79, U 80, U 81, U 82, U 83, U 84], []⟩ := ⟨φ, by
      rw [hF.lit_eq, show ((List.range 85).map φ).toArray = #[φ 0, φ 1, φ 2, φ 3, φ 4, φ 5, φ 6, φ 7, φ 8, φ 9, φ 10, φ 11, φ 12, φ 13, φ 14, φ 15, φ 16, φ 17, φ 18, φ 19, φ 20, φ 21, φ 22, φ 23, φ 24, φ 25, φ 26, φ 27, φ 28, φ 29, φ 30, φ 31, φ 32, φ 33, φ 34, φ 35, φ 36, φ 37, φ 38, φ 39, φ 40, φ 41, φ 42, φ 43, φ 44, φ 45, φ 46, φ 47, φ 48, φ 49, φ 50, φ 51, φ 52, φ 53, φ 54, φ 55, φ 56, φ 57, φ 58, φ 59, φ 60, φ 61, φ 62, φ 63, φ 64, φ 65, φ 66, φ 67, φ 68, φ 69, φ 70, φ 71, φ 72, φ 73, φ 74, φ 75, φ 76, φ 77, φ 78, φ 79, φ 80, φ 81, φ 82, φ 83, φ 84] by kernel_rfl, e1, e4]⟩
    obtain ⟨hbW, hsz⟩ := hR
    clear hF h0 hV hN e4 e1 e2
    obtain ⟨U, rfl⟩ := ea
    have hP2 := hbx.belowB (Nat.lt_succ_self _) hbW
    have hc2 := hP2.c0
    rw [hcmd] at hc2
    have hk26 : (kk : Int) < 26 := by omega
    have hkk0 : (0 : Int) ≤ (kk : Int) := by omega
    refine hnext _ _ ?_
    clear hnext
    go_upto_region 5 with fail
    rename_i hnext
    obtain ⟨pp, pc, hpv⟩ := hr.form
    have hone : pv.oneCell' = true := by rw [hpv]; rfl
    clear hpv
    obtain ⟨w3, hw3⟩ : ∃ w3, w3 = w2.alloc (.cells #[.int .u8 kk] 5) := ⟨_, rfl⟩
    have hb3 : Below w2.heap.size w2 w3 := by rw [hw3]; exact below_alloc1 _ _
    have hlit : #[Value.int .u8 (kk : Nat)] = ([Wi.cmdByte p.cmd].map bv).toArray := by
      rw [hcmd]; unfold Wi.cmdByte
      show _ = #[bv _]
      rw [bv_of, show (((kk : Int) % 256).toNat : Int) % 256 = (kk : Int) by omega]
    have ho3 : OB (w.heap.size + 1) w3 (.slice (some ⟨w2.heap.size, 0, none⟩) 1 1) [Wi.cmdByte p.cmd] := by
      rw [hw3]; exact OB.new w2 _ [Wi.cmdByte p.cmd] hlit (Nat.le_of_ble_eq_true rfl) hsz
    have hP3 := hP2.below hb3
    rw [← hw3]
    refine wp_region_lit ?_
    refine Og.st_start (n := 85) rfl fun a hF => ?_
    refine Og.st_same (.agg (pkL p pv).toArray) hF rfl rfl (by decide) (Og.exec_load rfl (load_pk hP3 hp)) fun a hF => ?_
    refine Og.st_val (w' := w3.alloc (.cells (pkL (Wi.Pk.zero 0) (.slice none 0 0)).toArray 34)) (.pointer (some ⟨w3.heap.size, 0, none⟩)) hF rfl rfl (by decide) (alloc_pk rfl w3) fun a hF => ?_
    have hz4 : PkAt (w3.alloc (.cells (pkL (Wi.Pk.zero 0) (.slice none 0 0)).toArray 34)) w3.heap.size (Wi.Pk.zero 0) (.slice none 0 0) := heap_new w3 _ _ rfl
    refine Og.st_skip (w' := (w3.alloc (.cells (pkL (Wi.Pk.zero 0) (.slice none 0 0)).toArray 34)).setCells w3.heap.size 0 (pkL p pv)) hF rfl rfl
      (exec_store (o := 0) (vs := pkL p pv) (cs := pkL (Wi.Pk.zero 0) (.slice none 0 0)) rfl rfl rfl hz4 (by rw [pkL_length hp, pkL_length (Wi.Pk.zero_ok 0)]; decide) (by rw [pkL_length hp]; exact pk_i) (pkL_one p pv hone)) fun a hF => ?_
    have hL5 := hz4.store 0 (pkL p pv) p pv (set_all hp (Wi.Pk.zero_ok 0))
    have hb5 : Below w3.heap.size w3 ((w3.alloc (.cells (pkL (Wi.Pk.zero 0) (.slice none 0 0)).toArray 34)).setCells w3.heap.size 0 (pkL p pv)) :=
      (below_alloc1 w3 _).grown (setCells_grown _ w3.heap.size 0 (pkL p pv)) (by simp) (fun k hk => by injection hk with hk; omega)
    generalize (w3.alloc (.cells (pkL (Wi.Pk.zero 0) (.slice none 0 0)).toArray 34)).setCells w3.heap.size 0 (pkL p pv) = w5 at *
    refine wpList_nil ?_
    obtain ⟨U', rfl⟩ := Og.Fr.lit_ex hF (fun U => ⟨#[U 0, .pointer (some ⟨w.heap.size, 0, none⟩), U 2, U 3, .slice (some ⟨g, 0, none⟩) c.2.length c.2.length, .slice (some ⟨w2.heap.size, 0, none⟩) 1 1, .pointer (some ⟨w3.heap.size, 0, none⟩), U 7, U 8, U 9, U 10, U 11, U 12, U 13, U 14, U 15, U 16, U 17, U 18, U 19, U 20, U 21, U 22, U 23, U 24, U 25, U 26, U 27, U 28, U 29, U 30, U 31, U 32, U 33, U 34, U 35, U 36, U 37, U 38, U 39, U 40, U 41, U 42, U 43, U 44, U 45, U 46, U 47, U 48, U 49, U 50, U 51, U 52, U 53, U 54, U 55, U 56, U 57, U 58, U 59, U 60, U 61, U 62, U 63, U 64, U 65, U 66, U 67, U 68, U 69, U 70, U 71, U 72, U 73, U 74, U 75, U 76, U 77, U 78, U 79, U 80, U 81, U 82, U 83, U 84], []⟩) (by kernel_rfl)
    clear hF
    refine hnext _ _ ?_
    clear hnext
    have hmem := List.mem_of_getElem? hc
    have hfok := fields_ok c hmem
    obtain ⟨h5, hlast⟩ := dat_last c hmem
    have Hf : Hid (Wi.fieldsOf p.cmd = c.2) := by
      show _ = _
      unfold Wi.fieldsOf
      rw [hcmd, show ((kk : Int)).toNat = kk from rfl, hc]; rfl
    have hbW5 := (hbW.trans (hb3.mono hsz)).trans (hb5.mono (Nat.le_trans hsz hb3.size))
    have ho5 := ho3.below hb5
    have hg5 : FldsAt w5 g c.2 := blk_below (blk_below hg hb3) hb5
    have hLB : w.heap.size + 1 ≤ w3.heap.size := Nat.le_trans hsz hb3.size
    have hrW := hr.below hb1
    have hSW := hS.below hb1
    generalize c.2 = fs at *
    clear hb5 hb3 hw3 ho3 hP3 hg hbW hb hc2 hP2
    generalize w3.heap.size = L at *
    go_wp2_with fail
    refine wp_loop_count (EncI w (w.alloc (.cells (pkL p pv).toArray 34)) p pv g L fs) fs.length ⟨_, _, exU (fun U => ⟨#[U 0, .pointer (some ⟨w.heap.size, 0, none⟩), U 2, U 3, .slice (some ⟨g, 0, none⟩) fs.length fs.length, .slice (some ⟨w2.heap.size, 0, none⟩) 1 1, .pointer (some ⟨L, 0, none⟩), U 7, U 8, U 9, U 10, U 11, U 12, U 13, U 14, U 15, U 16, U 17, U 18, U 19, U 20, U 21, U 22, U 23, U 24, .slice (some ⟨g, 0, none⟩) fs.length fs.length, .int .i64 fs.length, .int .i64 0, U 28, U 29, U 30, U 31, U 32, U 33, U 34, U 35, U 36, U 37, U 38, U 39, U 40, U 41, U 42, U 43, U 44, U 45, U 46, U 47, U 48, U 49, U 50, U 51, U 52, U 53, U 54, U 55, U 56, U 57, U 58, U 59, U 60, U 61, U 62, U 63, U 64, U 65, U 66, U 67, U 68, U 69, U 70, U 71, U 72, U 73, U 74, U 75, U 76, U 77, U 78, U 79, U 80, U 81, U 82, U 83, U 84], []⟩) rfl, rfl, ho5, hL5, hbW5, hg5⟩ ?_ ?_
    · rintro i a w' hi ⟨v', u, ⟨U1, rfl⟩, hall, ho, hL, hbW', hg'⟩
      clear hF hz4 ho5 hg5 hL5 hbW5
      obtain ⟨x, hx⟩ : ∃ x, fs[i]? = some x := ⟨fs[i], List.getElem?_eq_getElem hi⟩
      have hxok := hfok x (List.mem_of_getElem? hx)
      have hcell := hg'.cell hx
      have hil : (i : Int) < (fs.length : Int) := by exact_mod_cast hi
      have h5I : (i : Int) < 5 := by omega
      have hi0 : (0 : Int) ≤ (i : Int) := Int.natCast_nonneg i
      have hPw := hbx.belowB (Nat.lt_succ_self _) hbW'
      have h3B : 3 < w.heap.size + 1 := Nat.lt_succ_of_lt hS.1
      have hSw : Szs w' := hSW.belowB h3B hbW'
      have hpB : p.data ≠ [] → ∀ g, pv.ownBlock = some g → g < w.heap.size + 1 := fun hl g e => Nat.lt_succ_of_lt (hr.block hl g e)
      have hrw := hrW.belowB hbW' hpB
      have hBs : w.heap.size + 1 ≤ w'.heap.size := by have := hbW'.size; simp at this; omega
      have hlen : (Wi.cmdByte p.cmd :: (fs.take i).flatMap (Wi.wrF p)).length + 34 + p.data.length ≤ 140737488355328 := by
        have h1 := wr_flat hp (fs.take i) (fun y hy => hlast y (by
          rw [List.dropLast_eq_take]
          have : fs.take i = (fs.take (fs.length - 1)).take i := by rw [List.take_take, Nat.min_eq_left (by omega)]
          rw [this] at hy
          exact List.mem_of_mem_take hy))
        have h2 := hp.data
        have h3 : (fs.take i).length ≤ 5 := by rw [List.length_take]; omega
        rw [List.length_cons]
        omega
      have Hn := Lib.hid (Wi.take_next hx)
      have Hx := Lib.hid hx
      have Hi := Lib.hid hi
      clear hx hi
      generalize hfx : fdV x = fx at *
      go_wp2_with fail
      rw [← hfx]
      refine (write_calls x hxok ho hBs hPw hp (Nat.lt_succ_self _) hSw h3B hrw hpB hlen).mono ?_
      rintro e w6 ⟨v6, rfl, ho6, ha6⟩
      rw [hfx]
      have hg6 : FldsAt w6 g fs := blk_grown hg' ha6.grown (ho.off hg' (by decide))
      have hL6 : PkAt w6 L ((fs.take i).foldl Wi.clearF p) u := hL.grown ha6.grown (ho.off hL (by decide))
      have hbW6 : Below (w.heap.size + 1) (w.alloc (.cells (pkL p pv).toArray 34)) w6 := hbW'.trans (ha6.belowB (fun k hk => (ho.lt k hk).1) hBs)
      clear hcell hSw hrw hPw hg' hL
      cases hok : Wi.okF p x with
      | false =>
        go_wp2_with fail
        go_ret2
        have he : Wi.packErr p = 75 := by
          unfold Wi.packErr
          rw [hk, if_neg (by decide), Hf.out, if_pos]
          cases hall2 : fs.all (Wi.okF p) with
          | false => rfl
          | true =>
            have := List.all_eq_true.1 hall2 x (List.mem_of_getElem? Hx.out)
            rw [hok] at this; cases this
        refine ⟨.slice none 0 0, by rw [he]; rfl, ?_, hb1.trans (hbW6.mono (Nat.le_succ _))⟩
        unfold Wi.packOut
        rw [he, if_neg (by decide)]
        exact OB.nil_ _ _
      | true =>
        have hw7 := below_alloc1 w6 (.cells (pkL (Wi.Pk.zero 0) (.slice none 0 0)).toArray 34)
        have hz : PkAt (w6.alloc (.cells (pkL (Wi.Pk.zero 0) (.slice none 0 0)).toArray 34)) w6.heap.size (Wi.Pk.zero 0) (.slice none 0 0) := heap_new w6 (.cells (pkL (Wi.Pk.zero 0) (.slice none 0 0)).toArray 34) w6.heap.size rfl
        have hL7 := hL6.below hw7
        have ho7 := ho6.below hw7
        have hg7 : FldsAt (w6.alloc (.cells (pkL (Wi.Pk.zero 0) (.slice none 0 0)).toArray 34)) g fs := blk_below hg6 hw7
        have hbW7 := hbW6.trans (hw7.mono (Nat.le_trans hBs ha6.grown.size))
        have hqok : ((fs.take i).foldl Wi.clearF p).Ok := foldl_ok _ p hp
        have hzL : w6.heap.size ≠ L := fun e => by have := hL6.lt; omega
        have hgL : g ≠ L := fun e => by
          have h1 : w6.heap[g]? = _ := hg6
          have h2 : w6.heap[L]? = _ := hL6
          rw [e, h2] at h1
          injection h1 with h1
          injection h1 with _ h1
          exact absurd h1 (by decide)
        have Hnext : ∀ w8 u8, PkAt w8 L (Wi.clearF ((fs.take i).foldl Wi.clearF p) x) u8 → (w6.alloc (.cells (pkL (Wi.Pk.zero 0) (.slice none 0 0)).toArray 34)).grownBy w8 (some L) →
            ∀ a, (∃ U : Nat → Value, a = ⟨#[U 0, .pointer (some ⟨w.heap.size, 0, none⟩), U 2, U 3, .slice (some ⟨g, 0, none⟩) fs.length fs.length, v6, .pointer (some ⟨L, 0, none⟩), U 7, U 8, U 9, U 10, U 11, U 12, U 13, U 14, U 15, U 16, U 17, U 18, U 19, U 20, U 21, U 22, U 23, U 24, .slice (some ⟨g, 0, none⟩) fs.length fs.length, .int .i64 fs.length, .int .i64 (i + 1 : Nat), U 28, U 29, U 30, U 31, U 32, U 33, U 34, U 35, U 36, U 37, U 38, U 39, U 40, U 41, U 42, U 43, U 44, U 45, U 46, U 47, U 48, U 49, U 50, U 51, U 52, U 53, U 54, U 55, U 56, U 57, U 58, U 59, U 60, U 61, U 62, U 63, U 64, U 65, U 66, U 67, U 68, U 69, U 70, U 71, U 72, U 73, U 74, U 75, U 76, U 77, U 78, U 79, U 80, U 81, U 82, U 83, U 84], []⟩) → EncI w (w.alloc (.cells (pkL p pv).toArray 34)) p pv g L fs (i + 1) a w8 := by
          intro w8 u8 hL8 hg8 a ha
          refine ⟨v6, u8, ha, ?_, ?_, ?_, ?_, ?_⟩
          · rw [Hn.out, List.all_append, hall]; simp [hok]
          · rw [Hn.out, List.flatMap_append]
            have := ho7.kept hg8 (fun g' e e' => (ho7.off hL7 (by decide)) (by rw [e]; exact e'.symm))
            simpa using this
          · rw [Hn.out, List.foldl_append]; exact hL8
          · exact hbW7.grown hg8 (by have := hBs; have := ha6.grown.size; simp; omega) (fun k hk => by injection hk with hk; omega)
          · exact blk_grown hg7 hg8 (fun e => hgL (by injection e with e; exact e.symm))
        clear hg6 hL6 hbW6 ho6 hall ho hbW' hbW7 hg7
        have hpk0 := hz
        cases x with
        | num k f =>
          subst hfx
          simp only [fdV, fdB, Fd.t]
          go_wp2_with fail
          refine (move_num k f hz hL7 hqok hzL).mono ?_
          rintro e w8 ⟨rfl, hL8, hg8⟩
          go_wp2_with fail
          exact Hnext w8 _ hL8 hg8 _ (exU (fun U => ⟨#[U 0, .pointer (some ⟨w.heap.size, 0, none⟩), U 2, U 3, .slice (some ⟨g, 0, none⟩) fs.length fs.length, v6, .pointer (some ⟨L, 0, none⟩), U 7, U 8, U 9, U 10, U 11, U 12, U 13, U 14, U 15, U 16, U 17, U 18, U 19, U 20, U 21, U 22, U 23, U 24, .slice (some ⟨g, 0, none⟩) fs.length fs.length, .int .i64 fs.length, .int .i64 (i + 1 : Nat), U 28, U 29, U 30, U 31, U 32, U 33, U 34, U 35, U 36, U 37, U 38, U 39, U 40, U 41, U 42, U 43, U 44, U 45, U 46, U 47, U 48, U 49, U 50, U 51, U 52, U 53, U 54, U 55, U 56, U 57, U 58, U 59, U 60, U 61, U 62, U 63, U 64, U 65, U 66, U 67, U 68, U 69, U 70, U 71, U 72, U 73, U 74, U 75, U 76, U 77, U 78, U 79, U 80, U 81, U 82, U 83, U 84], []⟩) rfl)
        | gens =>
          subst hfx
          simp only [fdV, fdB, Fd.t]
          go_wp2_with fail
          refine (move_gens hz hL7 hqok hzL).mono ?_
          rintro e w8 ⟨rfl, hL8, hg8⟩
          go_wp2_with fail
          exact Hnext w8 _ hL8 hg8 _ (exU (fun U => ⟨#[U 0, .pointer (some ⟨w.heap.size, 0, none⟩), U 2, U 3, .slice (some ⟨g, 0, none⟩) fs.length fs.length, v6, .pointer (some ⟨L, 0, none⟩), U 7, U 8, U 9, U 10, U 11, U 12, U 13, U 14, U 15, U 16, U 17, U 18, U 19, U 20, U 21, U 22, U 23, U 24, .slice (some ⟨g, 0, none⟩) fs.length fs.length, .int .i64 fs.length, .int .i64 (i + 1 : Nat), U 28, U 29, U 30, U 31, U 32, U 33, U 34, U 35, U 36, U 37, U 38, U 39, U 40, U 41, U 42, U 43, U 44, U 45, U 46, U 47, U 48, U 49, U 50, U 51, U 52, U 53, U 54, U 55, U 56, U 57, U 58, U 59, U 60, U 61, U 62, U 63, U 64, U 65, U 66, U 67, U 68, U 69, U 70, U 71, U 72, U 73, U 74, U 75, U 76, U 77, U 78, U 79, U 80, U 81, U 82, U 83, U 84], []⟩) rfl)
        | sum f =>
          subst hfx
          simp only [fdV, fdB, Fd.t]
          go_wp2_with fail
          refine (move_sum f hz hL7 hqok hzL).mono ?_
          rintro e w8 ⟨rfl, hL8, hg8⟩
          go_wp2_with fail
          exact Hnext w8 _ hL8 hg8 _ (exU (fun U => ⟨#[U 0, .pointer (some ⟨w.heap.size, 0, none⟩), U 2, U 3, .slice (some ⟨g, 0, none⟩) fs.length fs.length, v6, .pointer (some ⟨L, 0, none⟩), U 7, U 8, U 9, U 10, U 11, U 12, U 13, U 14, U 15, U 16, U 17, U 18, U 19, U 20, U 21, U 22, U 23, U 24, .slice (some ⟨g, 0, none⟩) fs.length fs.length, .int .i64 fs.length, .int .i64 (i + 1 : Nat), U 28, U 29, U 30, U 31, U 32, U 33, U 34, U 35, U 36, U 37, U 38, U 39, U 40, U 41, U 42, U 43, U 44, U 45, U 46, U 47, U 48, U 49, U 50, U 51, U 52, U 53, U 54, U 55, U 56, U 57, U 58, U 59, U 60, U 61, U 62, U 63, U 64, U 65, U 66, U 67, U 68, U 69, U 70, U 71, U 72, U 73, U 74, U 75, U 76, U 77, U 78, U 79, U 80, U 81, U 82, U 83, U 84], []⟩) rfl)
        | dat f =>
          subst hfx
          simp only [fdV, fdB, Fd.t]
          go_wp2_with fail
          refine (move_dat f hz hL7 hqok hzL).mono ?_
          rintro e w8 ⟨rfl, hL8, hg8⟩
          go_wp2_with fail
          exact Hnext w8 _ hL8 hg8 _ (exU (fun U => ⟨#[U 0, .pointer (some ⟨w.heap.size, 0, none⟩), U 2, U 3, .slice (some ⟨g, 0, none⟩) fs.length fs.length, v6, .pointer (some ⟨L, 0, none⟩), U 7, U 8, U 9, U 10, U 11, U 12, U 13, U 14, U 15, U 16, U 17, U 18, U 19, U 20, U 21, U 22, U 23, U 24, .slice (some ⟨g, 0, none⟩) fs.length fs.length, .int .i64 fs.length, .int .i64 (i + 1 : Nat), U 28, U 29, U 30, U 31, U 32, U 33, U 34, U 35, U 36, U 37, U 38, U 39, U 40, U 41, U 42, U 43, U 44, U 45, U 46, U 47, U 48, U 49, U 50, U 51, U 52, U 53, U 54, U 55, U 56, U 57, U 58, U 59, U 60, U 61, U 62, U 63, U 64, U 65, U 66, U 67, U 68, U 69, U 70, U 71, U 72, U 73, U 74, U 75, U 76, U 77, U 78, U 79, U 80, U 81, U 82, U 83, U 84], []⟩) rfl)
    · rintro a w' ⟨v', u, ⟨U1, rfl⟩, hall, ho, hL, hbW', hg'⟩
      clear hF hz4 ho5 hg5 hL5 hbW5
      rw [List.take_length] at hall ho hL
      have hq : (fs.foldl Wi.clearF p).Ok := foldl_ok _ p hp
      generalize hqq : fs.foldl Wi.clearF p = q at *
      go_upto_region 15 with fail
      rename_i K15 hnext
      have ho1 := u32_or_nat q.id q.block hq.id hq.block
      have hr1 : q.id ||| q.block < 4294967296 := Nat.or_lt_two_pow (n := 32) hq.id hq.block
      have ho2 := u32_or_nat _ q.epoch hr1 hq.epoch
      have hr2 : q.id ||| q.block ||| q.epoch < 4294967296 := Nat.or_lt_two_pow (n := 32) hr1 hq.epoch
      have ho3 := u32_or_nat _ q.count hr2 hq.count
      have hr3 : q.id ||| q.block ||| q.epoch ||| q.count < 4294967296 := Nat.or_lt_two_pow (n := 32) hr2 hq.count
      have ho4 := u32_or_nat _ q.flags hr3 hq.flags
      have hz5 : (q.id ||| q.block ||| q.epoch ||| q.count ||| q.flags = 0) ↔ (q.id = 0 ∧ q.block = 0 ∧ q.epoch = 0 ∧ q.count = 0 ∧ q.flags = 0) := by
        simp only [Nat.or_eq_zero_iff, and_assoc]
      have Hk : ∀ (a : Act) (b : Bool), Wi.plain q = b → (∃ U : Nat → Value, a = ⟨#[U 0, .pointer (some ⟨w.heap.size, 0, none⟩), U 2, U 3, .slice (some ⟨g, 0, none⟩) fs.length fs.length, v', U 6, U 7, U 8, U 9, .bool b, U 11, U 12, U 13, U 14, U 15, U 16, U 17, U 18, U 19, U 20, U 21, U 22, U 23, U 24, U 25, U 26, U 27, U 28, U 29, U 30, U 31, U 32, U 33, U 34, U 35, U 36, U 37, U 38, U 39, U 40, U 41, U 42, U 43, U 44, U 45, U 46, U 47, U 48, U 49, U 50, U 51, U 52, U 53, U 54, U 55, U 56, U 57, U 58, U 59, U 60, U 61, U 62, U 63, U 64, U 65, U 66, U 67, U 68, U 69, U 70, U 71, U 72, U 73, U 74, U 75, U 76, U 77, U 78, U 79, U 80, U 81, U 82, U 83, U 84], []⟩) → K15 a w' := by
        rintro a b hb ⟨U2, rfl⟩
        refine hnext _ _ ?_
        have hpe : Wi.packErr p = (if b = false then 75 else if 0 < p.data.length ∧ Wi.holdsD fs = false then 75 else 0) := by
          unfold Wi.packErr
          rw [hk, Hf.out, hall, hqq, hb]
          simp
        have hpo : ∀ z, Wi.packErr p = z → z ≠ 0 → Wi.packOut p = [] := fun z hz hne => by unfold Wi.packOut; rw [hz, if_neg hne]
        have hPw := hbx.belowB (Nat.lt_succ_self _) hbW'
        have hc42 := hPw.cd hp
        have hln : ∀ w, (Builtin.len_ #[32] 3 #[pv]).run Tryd.prog w = .ok (.int .i64 p.data.length) w := by
          obtain ⟨pp, pc, e⟩ := hr.form
          intro w
          rw [e]
          simp [Builtin.len_, run_underlying by_tu, goInt, Builtin.lenOf]
        have hBw := hb1.trans (hbW'.mono (Nat.le_succ _))
        have Ho := Lib.hid ho
        have Hall := Lib.hid hall
        have Hpe := Lib.hid hpe
        clear hpe
        clear hnext hall ho hq hL hbW' ho1 ho2 ho3 ho4 hqq hbx hPw hrW hSW
        cases b with
        | false =>
          go_wp2_with fail
          go_ret2
          refine ⟨.slice none 0 0, by rw [Hpe.out]; rfl, ?_, hBw⟩
          rw [hpo 75 Hpe.out (by decide)]
          exact OB.nil_ _ _
        | true =>
          by_cases hd : 0 < p.data.length
          · have hdI : (0 : Int) < (p.data.length : Int) := by exact_mod_cast hd
            go_wp2_with fail
            refine (holds_calls hg' (by omega)).out.mono ?_
            rintro e w9 ⟨rfl, hb9⟩
            cases hh : Wi.holdsD fs with
            | false =>
              go_wp2_with fail
              go_ret2
              have hpe2 : Wi.packErr p = 75 := by rw [Hpe.out, if_neg (by decide), if_pos ⟨hd, hh⟩]
              refine ⟨.slice none 0 0, by rw [hpe2]; rfl, ?_, hBw.trans (hb9.mono hBw.size)⟩
              rw [hpo _ hpe2 (by decide)]
              exact OB.nil_ _ _
            | true =>
              go_wp2_with fail
              go_ret2
              have hpe2 : Wi.packErr p = 0 := by rw [Hpe.out, if_neg (by decide), if_neg (by rw [hh]; simp)]
              refine ⟨v', by rw [hpe2]; rfl, ?_, hBw.trans (hb9.mono hBw.size)⟩
              unfold Wi.packOut Wi.packed
              rw [hpe2, if_pos rfl, Hf.out]
              exact (Ho.out.below hb9).more (Nat.le_succ _)
          · have hdI : ¬ (0 : Int) < (p.data.length : Int) := by exact_mod_cast hd
            go_wp2_with fail
            go_ret2
            have hpe2 : Wi.packErr p = 0 := by rw [Hpe.out, if_neg (by decide), if_neg (fun h => hd h.1)]
            refine ⟨v', by rw [hpe2]; rfl, ?_, hBw⟩
            unfold Wi.packOut Wi.packed
            rw [hpe2, if_pos rfl, Hf.out]
            exact Ho.out.more (Nat.le_succ _)
      by_cases hn0 : q.id ||| q.block ||| q.epoch ||| q.count ||| q.flags = 0
      · cases hg0 : decide (q.g1 = 0 ∧ q.g2 = 0 ∧ q.g3 = 0 ∧ q.g4 = 0) with
        | false =>
          refine Og.wp_region_plain _ (fun j => j == 27) (Og.Vt [.pointer (some ⟨L, 1, none⟩), .int .u32 ((q.id : Nat) : Int), .pointer (some ⟨L, 2, none⟩), .int .u32 ((q.block : Nat) : Int), .int .u32 ((q.id ||| q.block : Nat) : Int), .pointer (some ⟨L, 3, none⟩), .int .u32 ((q.epoch : Nat) : Int), .int .u32 ((q.id ||| q.block ||| q.epoch : Nat) : Int), .pointer (some ⟨L, 4, none⟩), .int .u32 ((q.count : Nat) : Int), .int .u32 ((q.id ||| q.block ||| q.epoch ||| q.count : Nat) : Int), .pointer (some ⟨L, 5, none⟩), .int .u32 ((q.flags : Nat) : Int), .int .u32 ((q.id ||| q.block ||| q.epoch ||| q.count ||| q.flags : Nat) : Int), .bool true, .bool true, .pointer (some ⟨L, 6, none⟩), .agg #[.int .u64 q.g1, .int .u64 q.g2, .int .u64 q.g3, .int .u64 q.g4], .agg #[.int .u64 0, .int .u64 0, .int .u64 0, .int .u64 0], .bool false, .bool false, .bool false, undef, undef, undef, undef, .bool false, .bool false] []) (fun w2 => w2 = w') (fun _ _ => True) 85 rfl (by kernel_rfl) rfl (fun _ _ => trivial) (Og.allOps ⟨?_, ?_, ?_, ?_, ?_, ?_, ?_, ?_, ?_, ?_, ?_, ?_, ?_, ?_, ?_, ?_, ?_, ?_, ?_, ?_, ?_, ?_, ?_, ?_, ?_, ?_, ?_, ?_, trivial⟩) ?_
          · refine Og.ok_val _ rfl rfl fun φ w2 hA => ?_
            have e6 : φ 6 = .pointer (some ⟨L, 0, none⟩) := hA.old 6 (by kernel_rfl)
            simp only [execOp, Og.ev, e6]
            go_simp
          · refine Og.ok_val _ rfl rfl fun φ w2 hA => ?_
            have e44 : φ 44 = .pointer (some ⟨L, 1, none⟩) := hA.of 0 (d := 44) (by simp) rfl rfl
            have hc := (hA.keep ▸ hL : PkAt w2 L q u).c1
            simp only [execOp, Og.ev, e44]
            go_simp
          · refine Og.ok_val _ rfl rfl fun φ w2 hA => ?_
            have e6 : φ 6 = .pointer (some ⟨L, 0, none⟩) := hA.old 6 (by kernel_rfl)
            simp only [execOp, Og.ev, e6]
            go_simp
          · refine Og.ok_val _ rfl rfl fun φ w2 hA => ?_
            have e46 : φ 46 = .pointer (some ⟨L, 2, none⟩) := hA.of 2 (d := 46) (by simp) rfl rfl
            have hc := (hA.keep ▸ hL : PkAt w2 L q u).c2
            simp only [execOp, Og.ev, e46]
            go_simp
          · refine Og.ok_val _ rfl rfl fun φ w2 hA => ?_
            have e45 : φ 45 = .int .u32 ((q.id : Nat) : Int) := hA.of 1 (d := 45) (by simp) rfl rfl
            have e47 : φ 47 = .int .u32 ((q.block : Nat) : Int) := hA.of 3 (d := 47) (by simp) rfl rfl
            have ho := ho1
            simp only [execOp, Og.ev, e45, e47]
            go_simp
          · refine Og.ok_val _ rfl rfl fun φ w2 hA => ?_
            have e6 : φ 6 = .pointer (some ⟨L, 0, none⟩) := hA.old 6 (by kernel_rfl)
            simp only [execOp, Og.ev, e6]
            go_simp
          · refine Og.ok_val _ rfl rfl fun φ w2 hA => ?_
            have e49 : φ 49 = .pointer (some ⟨L, 3, none⟩) := hA.of 5 (d := 49) (by simp) rfl rfl
            have hc := (hA.keep ▸ hL : PkAt w2 L q u).c3
            simp only [execOp, Og.ev, e49]
            go_simp
          · refine Og.ok_val _ rfl rfl fun φ w2 hA => ?_
            have e48 : φ 48 = .int .u32 ((q.id ||| q.block : Nat) : Int) := hA.of 4 (d := 48) (by simp) rfl rfl
            have e50 : φ 50 = .int .u32 ((q.epoch : Nat) : Int) := hA.of 6 (d := 50) (by simp) rfl rfl
            have ho := ho2
            simp only [execOp, Og.ev, e48, e50]
            go_simp
          · refine Og.ok_val _ rfl rfl fun φ w2 hA => ?_
            have e6 : φ 6 = .pointer (some ⟨L, 0, none⟩) := hA.old 6 (by kernel_rfl)
            simp only [execOp, Og.ev, e6]
            go_simp
          · refine Og.ok_val _ rfl rfl fun φ w2 hA => ?_
            have e52 : φ 52 = .pointer (some ⟨L, 4, none⟩) := hA.of 8 (d := 52) (by simp) rfl rfl
            have hc := (hA.keep ▸ hL : PkAt w2 L q u).c4
            simp only [execOp, Og.ev, e52]
            go_simp
          · refine Og.ok_val _ rfl rfl fun φ w2 hA => ?_
            have e51 : φ 51 = .int .u32 ((q.id ||| q.block ||| q.epoch : Nat) : Int) := hA.of 7 (d := 51) (by simp) rfl rfl
            have e53 : φ 53 = .int .u32 ((q.count : Nat) : Int) := hA.of 9 (d := 53) (by simp) rfl rfl
            have ho := ho3
            simp only [execOp, Og.ev, e51, e53]
            go_simp
          · refine Og.ok_val _ rfl rfl fun φ w2 hA => ?_
            have e6 : φ 6 = .pointer (some ⟨L, 0, none⟩) := hA.old 6 (by kernel_rfl)
            simp only [execOp, Og.ev, e6]
            go_simp
          · refine Og.ok_val _ rfl rfl fun φ w2 hA => ?_
            have e55 : φ 55 = .pointer (some ⟨L, 5, none⟩) := hA.of 11 (d := 55) (by simp) rfl rfl
            have hc := (hA.keep ▸ hL : PkAt w2 L q u).c5
            simp only [execOp, Og.ev, e55]
            go_simp
          · refine Og.ok_val _ rfl rfl fun φ w2 hA => ?_
            have e54 : φ 54 = .int .u32 ((q.id ||| q.block ||| q.epoch ||| q.count : Nat) : Int) := hA.of 10 (d := 54) (by simp) rfl rfl
            have e56 : φ 56 = .int .u32 ((q.flags : Nat) : Int) := hA.of 12 (d := 56) (by simp) rfl rfl
            have ho := ho4
            simp only [execOp, Og.ev, e54, e56]
            go_simp
          · refine Og.ok_val _ rfl rfl fun φ w2 hA => ?_
            have e57 : φ 57 = .int .u32 ((q.id ||| q.block ||| q.epoch ||| q.count ||| q.flags : Nat) : Int) := hA.of 13 (d := 57) (by simp) rfl rfl
            have hn := hn0
            simp only [execOp, Og.ev, e57]
            go_simp
          · refine Og.ok_val _ rfl rfl fun φ w2 hA => ?_
            have e58 : φ 58 = .bool true := hA.of 14 (d := 58) (by simp) rfl rfl
            simp only [execOp, Og.ev, e58]
            go_simp
          · refine Og.ok_val_g _ (Og.wants_of 15 true true rfl (by simp) rfl rfl rfl rfl) rfl rfl fun φ w2 hA => ?_
            have e6 : φ 6 = .pointer (some ⟨L, 0, none⟩) := hA.old 6 (by kernel_rfl)
            simp only [execOp, Og.ev, e6]
            go_simp
          · refine Og.ok_val_g _ (Og.wants_of 15 true true rfl (by simp) rfl rfl rfl rfl) rfl rfl fun φ w2 hA => ?_
            have e60 : φ 60 = .pointer (some ⟨L, 6, none⟩) := hA.of 16 (d := 60) (by simp) rfl rfl
            exact Og.exec_load rfl (by simp only [Og.ev]; rw [e60]; exact load_gens (hA.keep ▸ hL : PkAt w2 L q u))
          · refine Og.ok_val_g _ (Og.wants_of 15 true true rfl (by simp) rfl rfl rfl rfl) rfl rfl fun φ w2 hA => ?_
            kernel_rfl
          · refine Og.ok_val_g _ (Og.wants_of 15 true true rfl (by simp) rfl rfl rfl rfl) rfl rfl fun φ w2 hA => ?_
            have e61 : φ 61 = .agg #[.int .u64 q.g1, .int .u64 q.g2, .int .u64 q.g3, .int .u64 q.g4] := hA.of 17 (d := 61) (by simp) rfl rfl
            have e62 : φ 62 = .agg #[.int .u64 0, .int .u64 0, .int .u64 0, .int .u64 0] := hA.of 18 (d := 62) (by simp) rfl rfl
            exact exec_eql rfl (by exact e61) (by exact e62) (by kernel_rfl) ((eql_gens w2 q.g1 q.g2 q.g3 q.g4).trans (by rw [hg0]; rfl))
          · refine Og.ok_val _ rfl rfl fun φ w2 hA => ?_
            have e59 : φ 59 = .bool true := hA.of 15 (d := 59) (by simp) rfl rfl
            have e63 : φ 63 = .bool false := hA.of 19 (d := 63) (by simp) rfl rfl
            simp only [execOp, Og.ev, e59, e63]
            go_simp
          · refine Og.ok_val _ rfl rfl fun φ w2 hA => ?_
            have e64 : φ 64 = .bool false := hA.of 20 (d := 64) (by simp) rfl rfl
            simp only [execOp, Og.ev, e64]
            go_simp
          · exact Og.ok_pass (Og.wants_of 21 true false rfl (by simp) rfl rfl rfl rfl) rfl rfl
          · exact Og.ok_pass (Og.wants_of 21 true false rfl (by simp) rfl rfl rfl rfl) rfl rfl
          · exact Og.ok_pass (Og.wants_of 21 true false rfl (by simp) rfl rfl rfl rfl) rfl rfl
          · exact Og.ok_pass (Og.wants_of 21 true false rfl (by simp) rfl rfl rfl rfl) rfl rfl
          · refine Og.ok_val _ rfl rfl fun φ w2 hA => ?_
            have e65 : φ 65 = .bool false := hA.of 21 (d := 65) (by simp) rfl rfl
            have v69 := hA.of 25 (d := 69) (by simp) rfl rfl
            simp only [execOp, Og.ev, e65]
            go_simp
          · refine Og.ok_val _ rfl rfl fun φ w2 hA => ?_
            have e70 : φ 70 = .bool false := hA.of 26 (d := 70) (by simp) rfl rfl
            simp only [execOp, Og.ev, e70]
            go_simp
          · intro φ a w2 hF hR h0 hV hN
            have e10 : φ 10 = .bool (false) := hV 27 _ 10 rfl rfl rfl
            have e1 : φ 1 = .pointer (some ⟨w.heap.size, 0, none⟩) := h0 1 (by kernel_rfl)
            have e4 : φ 4 = .slice (some ⟨g, 0, none⟩) fs.length fs.length := h0 4 (by kernel_rfl)
            have e5 : φ 5 = v' := h0 5 (by kernel_rfl)
            rw [hR]
            exact Hk a (false) (by unfold Wi.plain; rw [show decide (q.id = 0 ∧ q.block = 0 ∧ q.epoch = 0 ∧ q.count = 0 ∧ q.flags = 0) = true from decide_eq_true (hz5.1 hn0), hg0]; rfl) ⟨φ, by rw [hF.lit_eq, show ((List.range 85).map φ).toArray = #[φ 0, φ 1, φ 2, φ 3, φ 4, φ 5, φ 6, φ 7, φ 8, φ 9, φ 10, φ 11, φ 12, φ 13, φ 14, φ 15, φ 16, φ 17, φ 18, φ 19, φ 20, φ 21, φ 22, φ 23, φ 24, φ 25, φ 26, φ 27, φ 28, φ 29, φ 30, φ 31, φ 32, φ 33, φ 34, φ 35, φ 36, φ 37, φ 38, φ 39, φ 40, φ 41, φ 42, φ 43, φ 44, φ 45, φ 46, φ 47, φ 48, φ 49, φ 50, φ 51, φ 52, φ 53, φ 54, φ 55, φ 56, φ 57, φ 58, φ 59, φ 60, φ 61, φ 62, φ 63, φ 64, φ 65, φ 66, φ 67, φ 68, φ 69, φ 70, φ 71, φ 72, φ 73, φ 74, φ 75, φ 76, φ 77, φ 78, φ 79, φ 80, φ 81, φ 82, φ 83, φ 84] by kernel_rfl, e1, e4, e5, e10]⟩
        | true =>
          refine Og.wp_region_plain _ (fun j => j == 27) (Og.Vt [.pointer (some ⟨L, 1, none⟩), .int .u32 ((q.id : Nat) : Int), .pointer (some ⟨L, 2, none⟩), .int .u32 ((q.block : Nat) : Int), .int .u32 ((q.id ||| q.block : Nat) : Int), .pointer (some ⟨L, 3, none⟩), .int .u32 ((q.epoch : Nat) : Int), .int .u32 ((q.id ||| q.block ||| q.epoch : Nat) : Int), .pointer (some ⟨L, 4, none⟩), .int .u32 ((q.count : Nat) : Int), .int .u32 ((q.id ||| q.block ||| q.epoch ||| q.count : Nat) : Int), .pointer (some ⟨L, 5, none⟩), .int .u32 ((q.flags : Nat) : Int), .int .u32 ((q.id ||| q.block ||| q.epoch ||| q.count ||| q.flags : Nat) : Int), .bool true, .bool true, .pointer (some ⟨L, 6, none⟩), .agg #[.int .u64 q.g1, .int .u64 q.g2, .int .u64 q.g3, .int .u64 q.g4], .agg #[.int .u64 0, .int .u64 0, .int .u64 0, .int .u64 0], .bool true, .bool true, .bool true, .pointer (some ⟨L, 10, none⟩), .agg (q.sum.map bv).toArray, .agg (Wi.zeros.map bv).toArray, .bool (decide (q.sum = Wi.zeros)), .bool (decide (q.sum = Wi.zeros)), .bool (decide (q.sum = Wi.zeros))] []) (fun w2 => w2 = w') (fun _ _ => True) 85 rfl (by kernel_rfl) rfl (fun _ _ => trivial) (Og.allOps ⟨?_, ?_, ?_, ?_, ?_, ?_, ?_, ?_, ?_, ?_, ?_, ?_, ?_, ?_, ?_, ?_, ?_, ?_, ?_, ?_, ?_, ?_, ?_, ?_, ?_, ?_, ?_, ?_, trivial⟩) ?_
          · refine Og.ok_val _ rfl rfl fun φ w2 hA => ?_
            have e6 : φ 6 = .pointer (some ⟨L, 0, none⟩) := hA.old 6 (by kernel_rfl)
            simp only [execOp, Og.ev, e6]
            go_simp
          · refine Og.ok_val _ rfl rfl fun φ w2 hA => ?_
            have e44 : φ 44 = .pointer (some ⟨L, 1, none⟩) := hA.of 0 (d := 44) (by simp) rfl rfl
            have hc := (hA.keep ▸ hL : PkAt w2 L q u).c1
            simp only [execOp, Og.ev, e44]
            go_simp
          · refine Og.ok_val _ rfl rfl fun φ w2 hA => ?_
            have e6 : φ 6 = .pointer (some ⟨L, 0, none⟩) := hA.old 6 (by kernel_rfl)
            simp only [execOp, Og.ev, e6]
            go_simp
          · refine Og.ok_val _ rfl rfl fun φ w2 hA => ?_
            have e46 : φ 46 = .pointer (some ⟨L, 2, none⟩) := hA.of 2 (d := 46) (by simp) rfl rfl
            have hc := (hA.keep ▸ hL : PkAt w2 L q u).c2
            simp only [execOp, Og.ev, e46]
            go_simp
          · refine Og.ok_val _ rfl rfl fun φ w2 hA => ?_
            have e45 : φ 45 = .int .u32 ((q.id : Nat) : Int) := hA.of 1 (d := 45) (by simp) rfl rfl
            have e47 : φ 47 = .int .u32 ((q.block : Nat) : Int) := hA.of 3 (d := 47) (by simp) rfl rfl
            have ho := ho1
            simp only [execOp, Og.ev, e45, e47]
            go_simp
          · refine Og.ok_val _ rfl rfl fun φ w2 hA => ?_
            have e6 : φ 6 = .pointer (some ⟨L, 0, none⟩) := hA.old 6 (by kernel_rfl)
            simp only [execOp, Og.ev, e6]
            go_simp
          · refine Og.ok_val _ rfl rfl fun φ w2 hA => ?_
            have e49 : φ 49 = .pointer (some ⟨L, 3, none⟩) := hA.of 5 (d := 49) (by simp) rfl rfl
            have hc := (hA.keep ▸ hL : PkAt w2 L q u).c3
            simp only [execOp, Og.ev, e49]
            go_simp
          · refine Og.ok_val _ rfl rfl fun φ w2 hA => ?_
            have e48 : φ 48 = .int .u32 ((q.id ||| q.block : Nat) : Int) := hA.of 4 (d := 48) (by simp) rfl rfl
            have e50 : φ 50 = .int .u32 ((q.epoch : Nat) : Int) := hA.of 6 (d := 50) (by simp) rfl rfl
            have ho := ho2
            simp only [execOp, Og.ev, e48, e50]
            go_simp
          · refine Og.ok_val _ rfl rfl fun φ w2 hA => ?_
            have e6 : φ 6 = .pointer (some ⟨L, 0, none⟩) := hA.old 6 (by kernel_rfl)
            simp only [execOp, Og.ev, e6]
            go_simp
          · refine Og.ok_val _ rfl rfl fun φ w2 hA => ?_
            have e52 : φ 52 = .pointer (some ⟨L, 4, none⟩) := hA.of 8 (d := 52) (by simp) rfl rfl
            have hc := (hA.keep ▸ hL : PkAt w2 L q u).c4
            simp only [execOp, Og.ev, e52]
            go_simp
          · refine Og.ok_val _ rfl rfl fun φ w2 hA => ?_
            have e51 : φ 51 = .int .u32 ((q.id ||| q.block ||| q.epoch : Nat) : Int) := hA.of 7 (d := 51) (by simp) rfl rfl
            have e53 : φ 53 = .int .u32 ((q.count : Nat) : Int) := hA.of 9 (d := 53) (by simp) rfl rfl
            have ho := ho3
            simp only [execOp, Og.ev, e51, e53]
            go_simp
          · refine Og.ok_val _ rfl rfl fun φ w2 hA => ?_
            have e6 : φ 6 = .pointer (some ⟨L, 0, none⟩) := hA.old 6 (by kernel_rfl)
            simp only [execOp, Og.ev, e6]
            go_simp
          · refine Og.ok_val _ rfl rfl fun φ w2 hA => ?_
            have e55 : φ 55 = .pointer (some ⟨L, 5, none⟩) := hA.of 11 (d := 55) (by simp) rfl rfl
            have hc := (hA.keep ▸ hL : PkAt w2 L q u).c5
            simp only [execOp, Og.ev, e55]
            go_simp
          · refine Og.ok_val _ rfl rfl fun φ w2 hA => ?_
            have e54 : φ 54 = .int .u32 ((q.id ||| q.block ||| q.epoch ||| q.count : Nat) : Int) := hA.of 10 (d := 54) (by simp) rfl rfl
            have e56 : φ 56 = .int .u32 ((q.flags : Nat) : Int) := hA.of 12 (d := 56) (by simp) rfl rfl
            have ho := ho4
            simp only [execOp, Og.ev, e54, e56]
            go_simp
          · refine Og.ok_val _ rfl rfl fun φ w2 hA => ?_
            have e57 : φ 57 = .int .u32 ((q.id ||| q.block ||| q.epoch ||| q.count ||| q.flags : Nat) : Int) := hA.of 13 (d := 57) (by simp) rfl rfl
            have hn := hn0
            simp only [execOp, Og.ev, e57]
            go_simp
          · refine Og.ok_val _ rfl rfl fun φ w2 hA => ?_
            have e58 : φ 58 = .bool true := hA.of 14 (d := 58) (by simp) rfl rfl
            simp only [execOp, Og.ev, e58]
            go_simp
          · refine Og.ok_val_g _ (Og.wants_of 15 true true rfl (by simp) rfl rfl rfl rfl) rfl rfl fun φ w2 hA => ?_
            have e6 : φ 6 = .pointer (some ⟨L, 0, none⟩) := hA.old 6 (by kernel_rfl)
            simp only [execOp, Og.ev, e6]
            go_simp
          · refine Og.ok_val_g _ (Og.wants_of 15 true true rfl (by simp) rfl rfl rfl rfl) rfl rfl fun φ w2 hA => ?_
            have e60 : φ 60 = .pointer (some ⟨L, 6, none⟩) := hA.of 16 (d := 60) (by simp) rfl rfl
            exact Og.exec_load rfl (by simp only [Og.ev]; rw [e60]; exact load_gens (hA.keep ▸ hL : PkAt w2 L q u))
          · refine Og.ok_val_g _ (Og.wants_of 15 true true rfl (by simp) rfl rfl rfl rfl) rfl rfl fun φ w2 hA => ?_
            kernel_rfl
          · refine Og.ok_val_g _ (Og.wants_of 15 true true rfl (by simp) rfl rfl rfl rfl) rfl rfl fun φ w2 hA => ?_
            have e61 : φ 61 = .agg #[.int .u64 q.g1, .int .u64 q.g2, .int .u64 q.g3, .int .u64 q.g4] := hA.of 17 (d := 61) (by simp) rfl rfl
            have e62 : φ 62 = .agg #[.int .u64 0, .int .u64 0, .int .u64 0, .int .u64 0] := hA.of 18 (d := 62) (by simp) rfl rfl
            exact exec_eql rfl (by exact e61) (by exact e62) (by kernel_rfl) ((eql_gens w2 q.g1 q.g2 q.g3 q.g4).trans (by rw [hg0]; rfl))
          · refine Og.ok_val _ rfl rfl fun φ w2 hA => ?_
            have e59 : φ 59 = .bool true := hA.of 15 (d := 59) (by simp) rfl rfl
            have e63 : φ 63 = .bool true := hA.of 19 (d := 63) (by simp) rfl rfl
            simp only [execOp, Og.ev, e59, e63]
            go_simp
          · refine Og.ok_val _ rfl rfl fun φ w2 hA => ?_
            have e64 : φ 64 = .bool true := hA.of 20 (d := 64) (by simp) rfl rfl
            simp only [execOp, Og.ev, e64]
            go_simp
          · refine Og.ok_val_g _ (Og.wants_of 21 true true rfl (by simp) rfl rfl rfl rfl) rfl rfl fun φ w2 hA => ?_
            have e6 : φ 6 = .pointer (some ⟨L, 0, none⟩) := hA.old 6 (by kernel_rfl)
            simp only [execOp, Og.ev, e6]
            go_simp
          · refine Og.ok_val_g _ (Og.wants_of 21 true true rfl (by simp) rfl rfl rfl rfl) rfl rfl fun φ w2 hA => ?_
            have e66 : φ 66 = .pointer (some ⟨L, 10, none⟩) := hA.of 22 (d := 66) (by simp) rfl rfl
            exact Og.exec_load rfl (by simp only [Og.ev]; rw [e66]; exact load_sum (hA.keep ▸ hL : PkAt w2 L q u) hq)
          · refine Og.ok_val_g _ (Og.wants_of 21 true true rfl (by simp) rfl rfl rfl rfl) rfl rfl fun φ w2 hA => ?_
            kernel_rfl
          · refine Og.ok_val_g _ (Og.wants_of 21 true true rfl (by simp) rfl rfl rfl rfl) rfl rfl fun φ w2 hA => ?_
            have e67 : φ 67 = .agg (q.sum.map bv).toArray := hA.of 23 (d := 67) (by simp) rfl rfl
            have e68 : φ 68 = .agg (Wi.zeros.map bv).toArray := hA.of 24 (d := 68) (by simp) rfl rfl
            exact exec_eql rfl (by exact e67) (by exact e68) (by kernel_rfl) (eql_sum w2 q hq)
          · refine Og.ok_val _ rfl rfl fun φ w2 hA => ?_
            have e65 : φ 65 = .bool true := hA.of 21 (d := 65) (by simp) rfl rfl
            have e69 : φ 69 = .bool (decide (q.sum = Wi.zeros)) := hA.of 25 (d := 69) (by simp) rfl rfl
            simp only [execOp, Og.ev, e65, e69]
            go_simp
          · refine Og.ok_val _ rfl rfl fun φ w2 hA => ?_
            have e70 : φ 70 = .bool (decide (q.sum = Wi.zeros)) := hA.of 26 (d := 70) (by simp) rfl rfl
            simp only [execOp, Og.ev, e70]
            go_simp
          · intro φ a w2 hF hR h0 hV hN
            have e10 : φ 10 = .bool (decide (q.sum = Wi.zeros)) := hV 27 _ 10 rfl rfl rfl
            have e1 : φ 1 = .pointer (some ⟨w.heap.size, 0, none⟩) := h0 1 (by kernel_rfl)
            have e4 : φ 4 = .slice (some ⟨g, 0, none⟩) fs.length fs.length := h0 4 (by kernel_rfl)
            have e5 : φ 5 = v' := h0 5 (by kernel_rfl)
            rw [hR]
            exact Hk a (decide (q.sum = Wi.zeros)) (by unfold Wi.plain; rw [show decide (q.id = 0 ∧ q.block = 0 ∧ q.epoch = 0 ∧ q.count = 0 ∧ q.flags = 0) = true from decide_eq_true (hz5.1 hn0), hg0]; simp) ⟨φ, by rw [hF.lit_eq, show ((List.range 85).map φ).toArray = #[φ 0, φ 1, φ 2, φ 3, φ 4, φ 5, φ 6, φ 7, φ 8, φ 9, φ 10, φ 11, φ 12, φ 13, φ 14, φ 15, φ 16, φ 17, φ 18, φ 19, φ 20, φ 21, φ 22, φ 23, φ 24, φ 25, φ 26, φ 27, φ 28, φ 29, φ 30, φ 31, φ 32, φ 33, φ 34, φ 35, φ 36, φ 37, φ 38, φ 39, φ 40, φ 41, φ 42, φ 43, φ 44, φ 45, φ 46, φ 47, φ 48, φ 49, φ 50, φ 51, φ 52, φ 53, φ 54, φ 55, φ 56, φ 57, φ 58, φ 59, φ 60, φ 61, φ 62, φ 63, φ 64, φ 65, φ 66, φ 67, φ 68, φ 69, φ 70, φ 71, φ 72, φ 73, φ 74, φ 75, φ 76, φ 77, φ 78, φ 79, φ 80, φ 81, φ 82, φ 83, φ 84] by kernel_rfl, e1, e4, e5, e10]⟩
      · refine Og.wp_region_plain _ (fun j => j == 27) (Og.Vt [.pointer (some ⟨L, 1, none⟩), .int .u32 ((q.id : Nat) : Int), .pointer (some ⟨L, 2, none⟩), .int .u32 ((q.block : Nat) : Int), .int .u32 ((q.id ||| q.block : Nat) : Int), .pointer (some ⟨L, 3, none⟩), .int .u32 ((q.epoch : Nat) : Int), .int .u32 ((q.id ||| q.block ||| q.epoch : Nat) : Int), .pointer (some ⟨L, 4, none⟩), .int .u32 ((q.count : Nat) : Int), .int .u32 ((q.id ||| q.block ||| q.epoch ||| q.count : Nat) : Int), .pointer (some ⟨L, 5, none⟩), .int .u32 ((q.flags : Nat) : Int), .int .u32 ((q.id ||| q.block ||| q.epoch ||| q.count ||| q.flags : Nat) : Int), .bool false, .bool false, undef, undef, undef, undef, .bool false, .bool false, undef, undef, undef, undef, .bool false, .bool false] []) (fun w2 => w2 = w') (fun _ _ => True) 85 rfl (by kernel_rfl) rfl (fun _ _ => trivial) (Og.allOps ⟨?_, ?_, ?_, ?_, ?_, ?_, ?_, ?_, ?_, ?_, ?_, ?_, ?_, ?_, ?_, ?_, ?_, ?_, ?_, ?_, ?_, ?_, ?_, ?_, ?_, ?_, ?_, ?_, trivial⟩) ?_
        · refine Og.ok_val _ rfl rfl fun φ w2 hA => ?_
          have e6 : φ 6 = .pointer (some ⟨L, 0, none⟩) := hA.old 6 (by kernel_rfl)
          simp only [execOp, Og.ev, e6]
          go_simp
        · refine Og.ok_val _ rfl rfl fun φ w2 hA => ?_
          have e44 : φ 44 = .pointer (some ⟨L, 1, none⟩) := hA.of 0 (d := 44) (by simp) rfl rfl
          have hc := (hA.keep ▸ hL : PkAt w2 L q u).c1
          simp only [execOp, Og.ev, e44]
          go_simp
        · refine Og.ok_val _ rfl rfl fun φ w2 hA => ?_
          have e6 : φ 6 = .pointer (some ⟨L, 0, none⟩) := hA.old 6 (by kernel_rfl)
          simp only [execOp, Og.ev, e6]
          go_simp
        · refine Og.ok_val _ rfl rfl fun φ w2 hA => ?_
          have e46 : φ 46 = .pointer (some ⟨L, 2, none⟩) := hA.of 2 (d := 46) (by simp) rfl rfl
          have hc := (hA.keep ▸ hL : PkAt w2 L q u).c2
          simp only [execOp, Og.ev, e46]
          go_simp
        · refine Og.ok_val _ rfl rfl fun φ w2 hA => ?_
          have e45 : φ 45 = .int .u32 ((q.id : Nat) : Int) := hA.of 1 (d := 45) (by simp) rfl rfl
          have e47 : φ 47 = .int .u32 ((q.block : Nat) : Int) := hA.of 3 (d := 47) (by simp) rfl rfl
          have ho := ho1
          simp only [execOp, Og.ev, e45, e47]
          go_simp
        · refine Og.ok_val _ rfl rfl fun φ w2 hA => ?_
          have e6 : φ 6 = .pointer (some ⟨L, 0, none⟩) := hA.old 6 (by kernel_rfl)
          simp only [execOp, Og.ev, e6]
          go_simp
        · refine Og.ok_val _ rfl rfl fun φ w2 hA => ?_
          have e49 : φ 49 = .pointer (some ⟨L, 3, none⟩) := hA.of 5 (d := 49) (by simp) rfl rfl
          have hc := (hA.keep ▸ hL : PkAt w2 L q u).c3
          simp only [execOp, Og.ev, e49]
          go_simp
        · refine Og.ok_val _ rfl rfl fun φ w2 hA => ?_
          have e48 : φ 48 = .int .u32 ((q.id ||| q.block : Nat) : Int) := hA.of 4 (d := 48) (by simp) rfl rfl
          have e50 : φ 50 = .int .u32 ((q.epoch : Nat) : Int) := hA.of 6 (d := 50) (by simp) rfl rfl
          have ho := ho2
          simp only [execOp, Og.ev, e48, e50]
          go_simp
        · refine Og.ok_val _ rfl rfl fun φ w2 hA => ?_
          have e6 : φ 6 = .pointer (some ⟨L, 0, none⟩) := hA.old 6 (by kernel_rfl)
          simp only [execOp, Og.ev, e6]
          go_simp
        · refine Og.ok_val _ rfl rfl fun φ w2 hA => ?_
          have e52 : φ 52 = .pointer (some ⟨L, 4, none⟩) := hA.of 8 (d := 52) (by simp) rfl rfl
          have hc := (hA.keep ▸ hL : PkAt w2 L q u).c4
          simp only [execOp, Og.ev, e52]
          go_simp
        · refine Og.ok_val _ rfl rfl fun φ w2 hA => ?_
          have e51 : φ 51 = .int .u32 ((q.id ||| q.block ||| q.epoch : Nat) : Int) := hA.of 7 (d := 51) (by simp) rfl rfl
          have e53 : φ 53 = .int .u32 ((q.count : Nat) : Int) := hA.of 9 (d := 53) (by simp) rfl rfl
          have ho := ho3
          simp only [execOp, Og.ev, e51, e53]
          go_simp
        · refine Og.ok_val _ rfl rfl fun φ w2 hA => ?_
          have e6 : φ 6 = .pointer (some ⟨L, 0, none⟩) := hA.old 6 (by kernel_rfl)
          simp only [execOp, Og.ev, e6]
          go_simp
        · refine Og.ok_val _ rfl rfl fun φ w2 hA => ?_
          have e55 : φ 55 = .pointer (some ⟨L, 5, none⟩) := hA.of 11 (d := 55) (by simp) rfl rfl
          have hc := (hA.keep ▸ hL : PkAt w2 L q u).c5
          simp only [execOp, Og.ev, e55]
          go_simp
        · refine Og.ok_val _ rfl rfl fun φ w2 hA => ?_
          have e54 : φ 54 = .int .u32 ((q.id ||| q.block ||| q.epoch ||| q.count : Nat) : Int) := hA.of 10 (d := 54) (by simp) rfl rfl
          have e56 : φ 56 = .int .u32 ((q.flags : Nat) : Int) := hA.of 12 (d := 56) (by simp) rfl rfl
          have ho := ho4
          simp only [execOp, Og.ev, e54, e56]
          go_simp
        · refine Og.ok_val _ rfl rfl fun φ w2 hA => ?_
          have e57 : φ 57 = .int .u32 ((q.id ||| q.block ||| q.epoch ||| q.count ||| q.flags : Nat) : Int) := hA.of 13 (d := 57) (by simp) rfl rfl
          simp only [execOp, Og.ev, e57]
          go_simp
          exact fun a b c d e => hn0 (hz5.2 ⟨a, b, c, d, e⟩)
        · refine Og.ok_val _ rfl rfl fun φ w2 hA => ?_
          have e58 : φ 58 = .bool false := hA.of 14 (d := 58) (by simp) rfl rfl
          simp only [execOp, Og.ev, e58]
          go_simp
        · exact Og.ok_pass (Og.wants_of 15 true false rfl (by simp) rfl rfl rfl rfl) rfl rfl
        · exact Og.ok_pass (Og.wants_of 15 true false rfl (by simp) rfl rfl rfl rfl) rfl rfl
        · exact Og.ok_pass (Og.wants_of 15 true false rfl (by simp) rfl rfl rfl rfl) rfl rfl
        · exact Og.ok_pass (Og.wants_of 15 true false rfl (by simp) rfl rfl rfl rfl) rfl rfl
        · refine Og.ok_val _ rfl rfl fun φ w2 hA => ?_
          have e59 : φ 59 = .bool false := hA.of 15 (d := 59) (by simp) rfl rfl
          have v63 := hA.of 19 (d := 63) (by simp) rfl rfl
          simp only [execOp, Og.ev, e59]
          go_simp
        · refine Og.ok_val _ rfl rfl fun φ w2 hA => ?_
          have e64 : φ 64 = .bool false := hA.of 20 (d := 64) (by simp) rfl rfl
          simp only [execOp, Og.ev, e64]
          go_simp
        · exact Og.ok_pass (Og.wants_of 21 true false rfl (by simp) rfl rfl rfl rfl) rfl rfl
        · exact Og.ok_pass (Og.wants_of 21 true false rfl (by simp) rfl rfl rfl rfl) rfl rfl
        · exact Og.ok_pass (Og.wants_of 21 true false rfl (by simp) rfl rfl rfl rfl) rfl rfl
        · exact Og.ok_pass (Og.wants_of 21 true false rfl (by simp) rfl rfl rfl rfl) rfl rfl
        · refine Og.ok_val _ rfl rfl fun φ w2 hA => ?_
          have e65 : φ 65 = .bool false := hA.of 21 (d := 65) (by simp) rfl rfl
          have v69 := hA.of 25 (d := 69) (by simp) rfl rfl
          simp only [execOp, Og.ev, e65]
          go_simp
        · refine Og.ok_val _ rfl rfl fun φ w2 hA => ?_
          have e70 : φ 70 = .bool false := hA.of 26 (d := 70) (by simp) rfl rfl
          simp only [execOp, Og.ev, e70]
          go_simp
        · intro φ a w2 hF hR h0 hV hN
          have e10 : φ 10 = .bool (false) := hV 27 _ 10 rfl rfl rfl
          have e1 : φ 1 = .pointer (some ⟨w.heap.size, 0, none⟩) := h0 1 (by kernel_rfl)
          have e4 : φ 4 = .slice (some ⟨g, 0, none⟩) fs.length fs.length := h0 4 (by kernel_rfl)
          have e5 : φ 5 = v' := h0 5 (by kernel_rfl)
          rw [hR]
          exact Hk a (false) (by unfold Wi.plain; rw [show decide (q.id = 0 ∧ q.block = 0 ∧ q.epoch = 0 ∧ q.count = 0 ∧ q.flags = 0) = false from decide_eq_false (fun h => hn0 (hz5.2 h))]; rfl) ⟨φ, by rw [hF.lit_eq, show ((List.range 85).map φ).toArray = #[φ 0, φ 1, φ 2, φ 3, φ 4, φ 5, φ 6, φ 7, φ 8, φ 9, φ 10, φ 11, φ 12, φ 13, φ 14, φ 15, φ 16, φ 17, φ 18, φ 19, φ 20, φ 21, φ 22, φ 23, φ 24, φ 25, φ 26, φ 27, φ 28, φ 29, φ 30, φ 31, φ 32, φ 33, φ 34, φ 35, φ 36, φ 37, φ 38, φ 39, φ 40, φ 41, φ 42, φ 43, φ 44, φ 45, φ 46, φ 47, φ 48, φ 49, φ 50, φ 51, φ 52, φ 53, φ 54, φ 55, φ 56, φ 57, φ 58, φ 59, φ 60, φ 61, φ 62, φ 63, φ 64, φ 65, φ 66, φ 67, φ 68, φ 69, φ 70, φ 71, φ 72, φ 73, φ 74, φ 75, φ 76, φ 77, φ 78, φ 79, φ 80, φ 81, φ 82, φ 83, φ 84] by kernel_rfl, e1, e4, e5, e10]⟩
end Go.Proofs.YtbgfoobcpacfeaaDoor

/- The program's EncodePacket, any packet. -/
namespace Go.Proofs.YtbgfoobcpacfeaaDoor
open Go.RowKit
set_option maxRecDepth 100000
set_option linter.unusedVariables false
set_option linter.unusedSimpArgs false

/-- A call that answers bytes in memory of its own, and a number. -/
def MakesP (f : FuncId) (args : Array Value) (w : World) (l : List UInt8) (err : Int) : Prop :=
  Calls Tryd.prog f args w fun e w' => ∃ v, e = .returned (.tuple #[v, .int .i64 err]) ∧ OB w.heap.size w' v l ∧ Below w.heap.size w w'
theorem MakesP.out {f : FuncId} {args : Array Value} {w : World} {l : List UInt8} {err : Int} (h : MakesP f args w l err) :
  Calls Tryd.prog f args w fun e w' => ∃ v, e = .returned (.tuple #[v, .int .i64 err]) ∧ OB w.heap.size w' v l ∧ Below w.heap.size w w' := h
theorem encP_calls {w : World} {pv : Value} {p : Wi.Pk} (hp : p.Ok) (hr : RB w pv p.data) (hS : Szs w) : MakesP 20 #[.agg (pkL p pv).toArray] w (Wi.packOut p) (Wi.packErr p) := by
  unfold MakesP
  cases hk : knownB p.cmd with
  | true => exact encP_known hk hp hr hS
  | false =>
    refine (encP_cmd hk).mono ?_
    rintro e w' ⟨rfl, hb⟩
    have he : Wi.packErr p = 74 := by unfold Wi.packErr; rw [hk, if_pos rfl]
    refine ⟨.slice none 0 0, by rw [he], ?_, hb⟩
    unfold Wi.packOut
    rw [he, if_neg (by decide)]
    exact OB.nil_ _ _
end Go.Proofs.YtbgfoobcpacfeaaDoor

/- The program's reader: a number, so many bytes, a digest. -/
namespace Go.Proofs.YtbgfoobcpacfeaaDoor
open Go.RowKit
set_option maxRecDepth 100000
set_option linter.unusedVariables false
set_option linter.unusedSimpArgs false

/-- A reader lies there: its bytes and its place. -/
def RdAt (w : World) (r : Nat) (bs : Value) (n : Nat) : Prop := w.heap[r]? = some (.cells [bs, .int .i64 n].toArray 91 (0, 0))
theorem RdAt.c0 {w : World} {r n : Nat} {bs : Value} (h : RdAt w r bs n) : w.cell? ⟨r, 0, none⟩ = some bs := has_cell h 0
theorem RdAt.c1 {w : World} {r n : Nat} {bs : Value} (h : RdAt w r bs n) : w.cell? ⟨r, 1, none⟩ = some (.int .i64 n) := has_cell h 1
theorem RdAt.lt {w : World} {r n : Nat} {bs : Value} (h : RdAt w r bs n) : r < w.heap.size := heap_lt h
theorem RdAt.below {w w' : World} {r n : Nat} {bs : Value} (h : RdAt w r bs n) (hb : Below w.heap.size w w') : RdAt w' r bs n := blk_below h hb
theorem RdAt.set {w : World} {r n : Nat} {bs : Value} (h : RdAt w r bs n) (m : Nat) : RdAt (w.setCells r 1 [.int .i64 m]) r bs m := setCells_heap [.int .i64 m] 1 w _ h

set_option maxHeartbeats 4000000 in
theorem some_short {w : World} {r g o c at_ n : Nat} {l : List UInt8} (hR : RdAt w r (.slice (some ⟨g, o, none⟩) l.length c) at_) (hat : at_ ≤ l.length) (hl : l.length ≤ 140737488355328) (hn : l.length - at_ < n) (hn2 : n < 4294967296) :
    Calls Tryd.prog 88 #[.pointer (some ⟨r, 0, none⟩), .int .i64 n] w fun e w' => e = .returned (.slice none 0 0) ∧ RdAt w' r (.slice (some ⟨g, o, none⟩) l.length c) l.length ∧ w.grownBy w' (some r) := by
  have h0 := hR.c0
  have h1 := hR.c1
  have hrlt := hR.lt
  have hnI : (l.length : Int) - (at_ : Int) < (n : Int) := by omega
  have hw1 : IntKind.i64.wrap ((l.length : Int) - (at_ : Int)) = (l.length : Int) - (at_ : Int) := IntWalk.i64_in _ ⟨by omega, by omega⟩
  go_enter Tryd.func88, Tryd.ntmps88
  go_wp2_with fail
  refine wp_region_here (by kernel_rfl) (by kernel_rfl) ?_
  (repeat (first | (apply wpR_pass rfl; (try simp only [Act.put, List.setIfInBounds_toArray, List.set_cons_succ, List.set_cons_zero])) | (apply wpR_val rfl; (focus (intro w1 hR; obtain ⟨hc, hf⟩ := bcellB hR; (try go_simp); (try exact Eq.refl _); done)); (try simp only [Act.put, List.setIfInBounds_toArray, List.set_cons_succ, List.set_cons_zero])) | (apply wpR_call rfl; (focus (intro w1 hR; obtain ⟨hc, hf⟩ := bcellB hR; (try go_simp); (try exact And.intro rfl rfl); done)); (focus (intro w1 hR; first | exact ().at_ (by first | omega | (simp; done) | (simp; omega)) hR)); (try simp only [Act.put, List.setIfInBounds_toArray, List.set_cons_succ, List.set_cons_zero])) | (apply wpR_val_want rfl; (focus (intro w1 hR; obtain ⟨hc, hf⟩ := bcellB hR; (try go_simp); (try exact Eq.refl _); done)); (try simp only [Act.put, List.setIfInBounds_toArray, List.set_cons_succ, List.set_cons_zero])) | (apply wpR_call_want rfl; (focus (intro w1 hR; obtain ⟨hc, hf⟩ := bcellB hR; (try go_simp); (try exact And.intro rfl rfl); done)); (focus (intro w1 hR; first | exact ().at_ (by first | omega | (simp; done) | (simp; omega)) hR)); (try simp only [Act.put, List.setIfInBounds_toArray, List.set_cons_succ, List.set_cons_zero]))))
  refine wpR_nil ?_
  intro w2 hb2
  have hR2 := hR.below hb2
  have h02 := hR2.c0
  have h12 := hR2.c1
  have hfz : w2.frozen? ⟨r, 1, none⟩ = false := by simp [World.frozen?, show w2.heap[r]? = _ from hR2]
  clear h0 h1 hw1
  go_wp2_with fail
  go_ret
  exact ⟨rfl, hR2.set _, World.grownBy.trans (below_grown hb2) (setCells_grown w2 r 1 [.int .i64 l.length])⟩

set_option maxHeartbeats 4000000 in
theorem some_long {w : World} {r g o c at_ n : Nat} {l : List UInt8} (hR : RdAt w r (.slice (some ⟨g, o, none⟩) l.length c) at_) (hn0 : 0 < n) (hn : at_ + n ≤ l.length) (hc : l.length ≤ c) (hcm : c ≤ maxLen) (hl : l.length ≤ 140737488355328) :
    Calls Tryd.prog 88 #[.pointer (some ⟨r, 0, none⟩), .int .i64 n] w fun e w' => e = .returned (.slice (some ⟨g, o + at_, none⟩) n (c - at_)) ∧ RdAt w' r (.slice (some ⟨g, o, none⟩) l.length c) (at_ + n) ∧ w.grownBy w' (some r) := by
  have h0 := hR.c0
  have h1 := hR.c1
  have hrlt := hR.lt
  have hmx : maxLen = 9223372036854775807 := rfl
  rw [hmx] at hcm
  have hnI : ¬ ((l.length : Int) - (at_ : Int) < (n : Int)) := by omega
  have hw1 : IntKind.i64.wrap ((l.length : Int) - (at_ : Int)) = (l.length : Int) - (at_ : Int) := IntWalk.i64_in _ ⟨by omega, by omega⟩
  have hw2 : IntKind.i64.wrap ((at_ : Int) + (n : Int)) = ((at_ + n : Nat) : Int) := by rw [IntWalk.i64_in _ ⟨by omega, by omega⟩]; rfl
  go_enter Tryd.func88, Tryd.ntmps88
  go_wp2_with fail
  refine wp_region_here (by kernel_rfl) (by kernel_rfl) ?_
  (repeat (first | (apply wpR_pass rfl; (try simp only [Act.put, List.setIfInBounds_toArray, List.set_cons_succ, List.set_cons_zero])) | (apply wpR_val rfl; (focus (intro w1 hR; obtain ⟨hc, hf⟩ := bcellB hR; (try go_simp); (try exact Eq.refl _); done)); (try simp only [Act.put, List.setIfInBounds_toArray, List.set_cons_succ, List.set_cons_zero])) | (apply wpR_call rfl; (focus (intro w1 hR; obtain ⟨hc, hf⟩ := bcellB hR; (try go_simp); (try exact And.intro rfl rfl); done)); (focus (intro w1 hR; first | exact ().at_ (by first | omega | (simp; done) | (simp; omega)) hR)); (try simp only [Act.put, List.setIfInBounds_toArray, List.set_cons_succ, List.set_cons_zero])) | (apply wpR_val_want rfl; (focus (intro w1 hR; obtain ⟨hc, hf⟩ := bcellB hR; (try go_simp); (try exact Eq.refl _); done)); (try simp only [Act.put, List.setIfInBounds_toArray, List.set_cons_succ, List.set_cons_zero])) | (apply wpR_call_want rfl; (focus (intro w1 hR; obtain ⟨hc, hf⟩ := bcellB hR; (try go_simp); (try exact And.intro rfl rfl); done)); (focus (intro w1 hR; first | exact ().at_ (by first | omega | (simp; done) | (simp; omega)) hR)); (try simp only [Act.put, List.setIfInBounds_toArray, List.set_cons_succ, List.set_cons_zero]))))
  refine wpR_nil ?_
  intro w2 hb2
  have hR2 := hR.below hb2
  have h02 := hR2.c0
  have h12 := hR2.c1
  have hlt2 := hR2.lt
  clear h0 h1 hw1 hrlt
  go_wp2_with fail
  have hi0 : (0 : Int) ≤ (at_ : Int) := Int.natCast_nonneg _
  have hi1 : (at_ : Int) ≤ (at_ : Int) + (n : Int) := by omega
  have hi2 : (at_ : Int) + (n : Int) ≤ (c : Int) := by omega
  have hi3 : (0 : Int) ≤ (at_ : Int) + (n : Int) := by omega
  have hi4 : (at_ : Int) ≤ (c : Int) := by omega
  refine wp_region_here (by kernel_rfl) (by kernel_rfl) ?_
  (repeat (first | (apply wpR_pass rfl; (try simp only [Act.put, List.setIfInBounds_toArray, List.set_cons_succ, List.set_cons_zero])) | (apply wpR_val rfl; (focus (intro w1 hR; obtain ⟨hc, hf⟩ := bcellB hR; (try go_simp); (try exact Eq.refl _); done)); (try simp only [Act.put, List.setIfInBounds_toArray, List.set_cons_succ, List.set_cons_zero])) | (apply wpR_call rfl; (focus (intro w1 hR; obtain ⟨hc, hf⟩ := bcellB hR; (try go_simp); (try exact And.intro rfl rfl); done)); (focus (intro w1 hR; first | exact ().at_ (by first | omega | (simp; done) | (simp; omega)) hR)); (try simp only [Act.put, List.setIfInBounds_toArray, List.set_cons_succ, List.set_cons_zero])) | (apply wpR_val_want rfl; (focus (intro w1 hR; obtain ⟨hc, hf⟩ := bcellB hR; (try go_simp); (try exact Eq.refl _); done)); (try simp only [Act.put, List.setIfInBounds_toArray, List.set_cons_succ, List.set_cons_zero])) | (apply wpR_call_want rfl; (focus (intro w1 hR; obtain ⟨hc, hf⟩ := bcellB hR; (try go_simp); (try exact And.intro rfl rfl); done)); (focus (intro w1 hR; first | exact ().at_ (by first | omega | (simp; done) | (simp; omega)) hR)); (try simp only [Act.put, List.setIfInBounds_toArray, List.set_cons_succ, List.set_cons_zero]))))
  have hne : ¬ (c = at_) := by omega
  have hlen : (((at_ : Int) + (n : Int)).toNat - at_) = n := by omega
  rw [if_neg hne, hlen]
  refine wpR_nil ?_
  intro w3 hb3
  have hR3 := hR2.below hb3
  have h13 := hR3.c1
  have hfz : w3.frozen? ⟨r, 1, none⟩ = false := by simp [World.frozen?, show w3.heap[r]? = _ from hR3]
  clear h02 h12 hlen hne
  go_wp2_with fail
  go_ret
  exact ⟨rfl, hR3.set (at_ + n), World.grownBy.trans (below_grown (hb2.trans (hb3.mono hb2.size))) (setCells_grown w3 r 1 [.int .i64 ((at_ + n : Nat) : Int)])⟩
end Go.Proofs.YtbgfoobcpacfeaaDoor

/- Numbers read out of bytes, of both. -/
namespace Go.Proofs.YtbgfoobcpacfeaaDoor
open Go.RowKit
set_option linter.unusedVariables false
set_option linter.unusedSimpArgs false

theorem or_byte64 {v : Nat} (b : UInt8) (hv : v * 256 < 18446744073709551616) : bits .or .u64 ((v : Int) * 256) (b.toNat : Int) = ((v * 256 + b.toNat : Nat) : Int) := by
  rw [← Wi.or_byte]
  exact u64_or_nat (v * 256) b.toNat hv (by have := b.toNat_lt; omega)
theorem or_byte32 {v : Nat} (b : UInt8) (hv : v * 256 < 4294967296) : bits .or .u32 ((v : Int) * 256) (b.toNat : Int) = ((v * 256 + b.toNat : Nat) : Int) := by
  rw [← Wi.or_byte]
  exact u32_or_nat (v * 256) b.toNat hv (by have := b.toNat_lt; omega)

set_option maxRecDepth 100000 in
set_option maxHeartbeats 4000000 in
theorem big_calls {w : World} {v : Value} {l : List UInt8} (h : RB w v l) (hl : l.length ≤ 8) : Pur Tryd.prog 53 #[v] w (.int .u64 (Wi.unbe l : Nat)) := by
  unfold Pur
  obtain ⟨p, c, rfl, h1, h2, h3, hr⟩ := h
  go_enter Tryd.func53, Tryd.ntmps53
  go_wp2_with fail
  refine wp_loop_count (fun i a w' => (∃ U : Nat → Value, a = ⟨#[.slice p l.length c, U 1, .int .u64 0, .int .u64 (Wi.unbe (l.take i) : Nat), U 4, U 5, .slice p l.length c, .int .i64 l.length, .int .i64 i, U 9, U 10, U 11, U 12, U 13, U 14, U 15, U 16, U 17, U 18], []⟩) ∧ w' = w) l.length ⟨exU (fun U => ⟨#[.slice p l.length c, U 1, .int .u64 0, .int .u64 0, U 4, U 5, .slice p l.length c, .int .i64 l.length, .int .i64 0, U 9, U 10, U 11, U 12, U 13, U 14, U 15, U 16, U 17, U 18], []⟩) rfl, rfl⟩ ?_ ?_
  · rintro i a w' hi ⟨⟨U, rfl⟩, rfl⟩
    obtain ⟨b, hb⟩ : ∃ b, l[i]? = some b := ⟨l[i], List.getElem?_eq_getElem hi⟩
    obtain ⟨g, o, rfl, hg, hcell⟩ := hr i b hb
    have hi' : (i : Int) < (l.length : Int) := by exact_mod_cast hi
    have hi0 : (0 : Int) ≤ (i : Int) := Int.natCast_nonneg i
    have hv := Wi.unbe_take_lt l i
    have hv8 : (256 : Nat) ^ i ≤ 256 ^ 7 := Nat.pow_le_pow_right (by decide) (by omega)
    have Hn := Lib.hid (show Wi.unbe (l.take (i + 1)) = Wi.unbe (l.take i) * 256 + b.toNat by rw [Wi.take_next hb, Wi.unbe_snoc])
    generalize Wi.unbe (l.take i) = x at *
    have hx : x * 256 < 18446744073709551616 := by omega
    have hxI : (x : Int) * 256 < 18446744073709551616 := by omega
    have hx0 : (0 : Int) ≤ (x : Int) := Int.natCast_nonneg x
    have hb8 := b.toNat_lt
    have hor := or_byte64 b hx
    clear hr hb hv hv8
    go_wp2_with fail
    rw [Hn.out]
    exact ⟨exU (fun U => ⟨#[.slice (some ⟨g, o, none⟩) l.length c, U 1, .int .u64 0, .int .u64 (x * 256 + b.toNat : Nat), U 4, U 5, .slice (some ⟨g, o, none⟩) l.length c, .int .i64 l.length, .int .i64 (i + 1 : Nat), U 9, U 10, U 11, U 12, U 13, U 14, U 15, U 16, U 17, U 18], []⟩) rfl, trivial⟩
  · rintro a w' ⟨⟨U, rfl⟩, rfl⟩
    rw [List.take_length]
    go_wp2_with fail
    go_ret
    exact ⟨rfl, Below.refl _ _⟩

end Go.Proofs.YtbgfoobcpacfeaaDoor

/- The program's reader: a number. -/
namespace Go.Proofs.YtbgfoobcpacfeaaDoor
open Go.RowKit
set_option maxRecDepth 100000
set_option linter.unusedVariables false
set_option linter.unusedSimpArgs false

/-- What is left of the bytes, behind what the reader has read; what 'number' answers. -/
def NumPost (w : World) (r : Nat) (bs : Value) (len : Nat) (res : Wi.Res Nat) (e : Ending) (w' : World) : Prop :=
  match res with
  | .ok v rest => e = .returned (.tuple #[.int .u32 v, .bool true]) ∧ RdAt w' r bs (len - rest.length) ∧ w.grownBy w' (some r)
  | .bad rest => e = .returned (.tuple #[.int .u32 0, .bool false]) ∧ RdAt w' r bs (len - rest.length) ∧ w.grownBy w' (some r)
/-- The loop of 'number', behind i of n bytes. -/
def NumI (w : World) (r : Nat) (bs sv : Value) (l : List UInt8) (s : List (Nat × Nat)) (n at_ : Nat) (i : Nat) (a : Act) (w' : World) : Prop :=
  ∃ z v, z = (n : Int) - 1 - (i : Nat) ∧ (∃ U : Nat → Value, a = ⟨#[.pointer (some ⟨r, 0, none⟩), .int .i64 n, sv, U 3, U 4, U 5, .int .u32 0, .bool false, .int .u64 (v : Nat), .int .i64 z, U 10, U 11, U 12, U 13, U 14, U 15, U 16, U 17, U 18, U 19, U 20, U 21, U 22, U 23, U 24, U 25, U 26, U 27, U 28, U 29, U 30, U 31, U 32, U 33, U 34, U 35, U 36, U 37, U 38, U 39, U 40, U 41, U 42, U 43, U 44, U 45, U 46, U 47, U 48, U 49, U 50, U 51, U 52, U 53, U 54, U 55, U 56, U 57, U 58, U 59, U 60, U 61, U 62, U 63], []⟩) ∧
    v < 256 ^ i ∧ at_ + i ≤ l.length ∧ Wi.rdNum s n 0 (l.drop at_) = Wi.rdNum s (n - i) v (l.drop (at_ + i)) ∧ RdAt w' r bs (at_ + i) ∧ w.grownBy w' (some r)

set_option maxHeartbeats 8000000 in
theorem number_calls {w : World} {r g o c at_ n : Nat} {l : List UInt8} {sv : Value} {s : List (Nat × Nat)} (hR : RdAt w r (.slice (some ⟨g, o, none⟩) l.length c) at_) (hr : RB w (.slice (some ⟨g, o, none⟩) l.length c) l) (hgr : g ≠ r) (hs : Spans w sv s) (hsr : sv.ownBlock ≠ some r) (hat : at_ ≤ l.length) (hl : l.length ≤ 140737488355328) (hn : n ≤ 4) :
    Calls Tryd.prog 87 #[.pointer (some ⟨r, 0, none⟩), .int .i64 n, sv] w (NumPost w r (.slice (some ⟨g, o, none⟩) l.length c) l.length (Wi.rdNum s n 0 (l.drop at_))) := by
  go_enter Tryd.func87, Tryd.ntmps87
  go_wp2_with fail
  refine wp_loop_count (NumI w r (.slice (some ⟨g, o, none⟩) l.length c) sv l s n at_) n ⟨_, 0, by omega, exU (fun U => ⟨#[.pointer (some ⟨r, 0, none⟩), .int .i64 n, sv, U 3, U 4, U 5, .int .u32 0, .bool false, .int .u64 (0 : Nat), .int .i64 ((n : Int) - 1), U 10, U 11, U 12, U 13, U 14, U 15, U 16, U 17, U 18, U 19, U 20, U 21, U 22, U 23, U 24, U 25, U 26, U 27, U 28, U 29, U 30, U 31, U 32, U 33, U 34, U 35, U 36, U 37, U 38, U 39, U 40, U 41, U 42, U 43, U 44, U 45, U 46, U 47, U 48, U 49, U 50, U 51, U 52, U 53, U 54, U 55, U 56, U 57, U 58, U 59, U 60, U 61, U 62, U 63], []⟩) rfl, by simp, hat, rfl, hR, World.grownBy.refl w _⟩ ?_ ?_
  · rintro i a w' hi ⟨z, v, hz, ⟨U, rfl⟩, hv, hat', heq, hR', hg'⟩
    obtain ⟨j, rfl⟩ : ∃ j, n = i + 1 + j := ⟨n - (i + 1), by omega⟩
    obtain rfl : z = (j : Int) := by omega
    have h0 := hR'.c0
    have h1 := hR'.c1
    have hrlt := hR'.lt
    have hj0 : (0 : Int) ≤ (j : Int) := Int.natCast_nonneg j
    have hj4 : (j : Int) < 4 := by omega
    rw [show i + 1 + j - i = j + 1 by omega] at heq
    have Hq := Lib.hid heq
    have Hv := Lib.hid hv
    clear hz heq hv
    by_cases he : at_ + i = l.length
    · have heI : ((at_ + i : Nat) : Int) = (l.length : Int) := by exact_mod_cast he
      have hnil : l.drop (at_ + i) = [] := List.drop_of_length_le (by omega)
      rw [hnil] at Hq
      have Hr := Lib.hid hR'
      rw [he] at h1 Hr
      clear hnil hR' heI
      go_wp2_with fail
      refine wp_region_here (by kernel_rfl) (by kernel_rfl) ?_
      (repeat (first | (apply wpR_pass rfl; (try simp only [Act.put, List.setIfInBounds_toArray, List.set_cons_succ, List.set_cons_zero])) | (apply wpR_val rfl; (focus (intro w1 hR; obtain ⟨hc, hf⟩ := bcellB hR; (try go_simp); (try exact Eq.refl _); done)); (try simp only [Act.put, List.setIfInBounds_toArray, List.set_cons_succ, List.set_cons_zero])) | (apply wpR_call rfl; (focus (intro w1 hR; obtain ⟨hc, hf⟩ := bcellB hR; (try go_simp); (try exact And.intro rfl rfl); done)); (focus (intro w1 hR; first | exact ().at_ (by first | omega | (simp; done) | (simp; omega)) hR)); (try simp only [Act.put, List.setIfInBounds_toArray, List.set_cons_succ, List.set_cons_zero])) | (apply wpR_val_want rfl; (focus (intro w1 hR; obtain ⟨hc, hf⟩ := bcellB hR; (try go_simp); (try exact Eq.refl _); done)); (try simp only [Act.put, List.setIfInBounds_toArray, List.set_cons_succ, List.set_cons_zero])) | (apply wpR_call_want rfl; (focus (intro w1 hR; obtain ⟨hc, hf⟩ := bcellB hR; (try go_simp); (try exact And.intro rfl rfl); done)); (focus (intro w1 hR; first | exact ().at_ (by first | omega | (simp; done) | (simp; omega)) hR)); (try simp only [Act.put, List.setIfInBounds_toArray, List.set_cons_succ, List.set_cons_zero]))))
      refine wpR_nil ?_
      intro w2 hb2
      go_wp2_with fail
      go_ret2
      rw [Hq.out]
      exact ⟨rfl, Hr.out.below hb2, World.grownBy.trans hg' (below_grown hb2)⟩
    · obtain ⟨b, hb⟩ : ∃ b, l[at_ + i]? = some b := ⟨l[at_ + i], List.getElem?_eq_getElem (by omega)⟩
      have hcell0 := cell_of_rb hr (at_ + i) b hb
      have hg0 : g < w.heap.size := cell_lt hcell0
      have hgw : g < w'.heap.size := Nat.lt_of_lt_of_le hg0 hg'.size
      have hcell : w'.cell? ⟨g, o + (at_ + i), none⟩ = some (bv b) := (World.cell?_of_block (hg'.block g hg0 (fun e => hgr (by injection e)))).trans hcell0
      have hneI : ¬ ((at_ + i : Nat) : Int) = (l.length : Int) := by exact_mod_cast he
      have hltI : ((at_ + i : Nat) : Int) < (l.length : Int) := by exact_mod_cast (Nat.lt_of_le_of_ne hat' he)
      have h0I : (0 : Int) ≤ ((at_ + i : Nat) : Int) := Int.natCast_nonneg _
      have hv4 : v < 16777216 := Nat.lt_of_lt_of_le Hv.out (by
        have := Nat.pow_le_pow_right (n := 256) (by decide) (show i ≤ 3 by omega)
        simpa using this)
      have Hvv := Lib.hid hv4
      clear hv4
      obtain ⟨pl, hpl⟩ : ∃ pl, pl = at_ + i := ⟨_, rfl⟩
      rw [← hpl] at hcell h1 hneI hltI h0I hR' he hat' Hq hb
      have Hpl := Lib.hid hpl
      have Hple := Lib.hid hat'
      have Hdrop := Lib.hid (show l.drop pl = b :: l.drop (pl + 1) from by
        rw [List.drop_eq_getElem_cons (by omega)]
        rw [List.getElem?_eq_getElem (by omega)] at hb
        injection hb with hb'
        rw [hb'])
      clear hpl hb he hat' hcell0 hg0
      go_wp2_with fail
      refine wp_region_here (by kernel_rfl) (by kernel_rfl) ?_
      (repeat (first | (apply wpR_pass rfl; (try simp only [Act.put, List.setIfInBounds_toArray, List.set_cons_succ, List.set_cons_zero])) | (apply wpR_val rfl; (focus (intro w1 hR; obtain ⟨hc, hf⟩ := bcellB hR; (try go_simp); (try exact Eq.refl _); done)); (try simp only [Act.put, List.setIfInBounds_toArray, List.set_cons_succ, List.set_cons_zero])) | (apply wpR_call rfl; (focus (intro w1 hR; obtain ⟨hc, hf⟩ := bcellB hR; (try go_simp); (try exact And.intro rfl rfl); done)); (focus (intro w1 hR; first | exact ().at_ (by first | omega | (simp; done) | (simp; omega)) hR)); (try simp only [Act.put, List.setIfInBounds_toArray, List.set_cons_succ, List.set_cons_zero])) | (apply wpR_val_want rfl; (focus (intro w1 hR; obtain ⟨hc, hf⟩ := bcellB hR; (try go_simp); (try exact Eq.refl _); done)); (try simp only [Act.put, List.setIfInBounds_toArray, List.set_cons_succ, List.set_cons_zero])) | (apply wpR_call_want rfl; (focus (intro w1 hR; obtain ⟨hc, hf⟩ := bcellB hR; (try go_simp); (try exact And.intro rfl rfl); done)); (focus (intro w1 hR; first | exact ().at_ (by first | omega | (simp; done) | (simp; omega)) hR)); (try simp only [Act.put, List.setIfInBounds_toArray, List.set_cons_succ, List.set_cons_zero]))))
      refine wpR_nil ?_
      intro w2 hb2
      have hR2 := hR'.below hb2
      have h02 := hR2.c0
      have h12 := hR2.c1
      have hrlt2 := hR2.lt
      have hcell2 := ((bcellB hb2).1 g (o + pl) hgw).trans hcell
      have hgw2 : g < w2.heap.size := Nat.lt_of_lt_of_le hgw hb2.size
      clear h0 h1 hrlt hcell
      go_wp2_with fail
      have hv4 := Hvv.out
      have hx : v * 256 < 18446744073709551616 := by omega
      have hxI : (v : Int) * 256 < 18446744073709551616 := by omega
      have hx0 : (0 : Int) ≤ (v : Int) := Int.natCast_nonneg v
      have hb8 := b.toNat_lt
      have hor := or_byte64 b hx
      clear hv4
      have hwa : IntKind.u64.wrap ((v : Int) * 256) = (v : Int) * 256 := by simp only [IntKind.wrap, IntKind.bits, IntKind.signed]; simp; omega
      have hwb : IntKind.u64.wrap (b.toNat : Int) = (b.toNat : Int) := by simp only [IntKind.wrap, IntKind.bits, IntKind.signed]; simp; omega
      refine wp_region_here (by kernel_rfl) (by kernel_rfl) ?_
      (repeat (first | (apply wpR_pass rfl; (try simp only [Act.put, List.setIfInBounds_toArray, List.set_cons_succ, List.set_cons_zero])) | (apply wpR_val rfl; (focus (intro w1 hR; obtain ⟨hc, hf⟩ := bcellB hR; (try go_simp); (try exact Eq.refl _); done)); (try simp only [Act.put, List.setIfInBounds_toArray, List.set_cons_succ, List.set_cons_zero])) | (apply wpR_call rfl; (focus (intro w1 hR; obtain ⟨hc, hf⟩ := bcellB hR; (try go_simp); (try exact And.intro rfl rfl); done)); (focus (intro w1 hR; first | exact ().at_ (by first | omega | (simp; done) | (simp; omega)) hR)); (try simp only [Act.put, List.setIfInBounds_toArray, List.set_cons_succ, List.set_cons_zero])) | (apply wpR_val_want rfl; (focus (intro w1 hR; obtain ⟨hc, hf⟩ := bcellB hR; (try go_simp); (try exact Eq.refl _); done)); (try simp only [Act.put, List.setIfInBounds_toArray, List.set_cons_succ, List.set_cons_zero])) | (apply wpR_call_want rfl; (focus (intro w1 hR; obtain ⟨hc, hf⟩ := bcellB hR; (try go_simp); (try exact And.intro rfl rfl); done)); (focus (intro w1 hR; first | exact ().at_ (by first | omega | (simp; done) | (simp; omega)) hR)); (try simp only [Act.put, List.setIfInBounds_toArray, List.set_cons_succ, List.set_cons_zero]))))
      rw [show (v : Int) * 256 + (b.toNat : Int) = ((v * 256 + b.toNat : Nat) : Int) by omega]
      refine wpR_nil ?_
      intro w3 hb3
      have hR3 := hR2.below hb3
      clear hor hwa hwb hx hxI hx0 hb8 h02 h12 hcell2
      go_wp2_with fail
      have hs3 := (hs.grown hg' (fun g' e1 e2 => hsr (e1.trans e2.symm))).below (hb2.trans (hb3.mono hb2.size))
      have hg3 := World.grownBy.trans hg' (below_grown (r := some r) (hb2.trans (hb3.mono hb2.size)))
      obtain ⟨x, hx⟩ : ∃ x, x = v * 256 + b.toNat := ⟨_, rfl⟩
      rw [← hx]
      obtain ⟨lo, hlo⟩ : ∃ lo, lo = x * 256 ^ j := ⟨_, rfl⟩
      have hpos : 0 < 256 ^ j := Nat.pow_pos (by decide)
      obtain ⟨hi', hhi⟩ : ∃ hi', hi' = (x + 1) * 256 ^ j - 1 := ⟨_, rfl⟩
      have hhi1 : hi' + 1 = (x + 1) * 256 ^ j := by
        have := Nat.mul_pos (show 0 < x + 1 by omega) hpos
        omega
      have hxi : x < 256 ^ (i + 1) := by
        have h8 := b.toNat_lt
        have h9 := Hv.out
        rw [Nat.pow_succ]
        omega
      have hx4 : (x + 1) * 256 ^ j ≤ 4294967296 := by
        have h1 := Nat.mul_le_mul (show x + 1 ≤ 256 ^ (i + 1) from hxi) (Nat.le_refl (256 ^ j))
        rw [← Nat.pow_add] at h1
        exact Nat.le_trans h1 (Nat.pow_le_pow_right (n := 256) (by decide) hn)
      have hlohi : lo ≤ hi' := by
        have h1 := Nat.mul_le_mul (Nat.le_refl x) (Nat.le_refl (256 ^ j))
        rw [Nat.add_mul, Nat.one_mul] at hhi1
        omega
      have hhi32 : hi' < 4294967296 := by omega
      have hx32 : x < 4294967296 := by
        have h1 := Nat.mul_le_mul (Nat.le_refl x) hpos
        omega
      have h2p : (2 : Int) ^ (8 * (j : Int)).toNat = ((256 ^ j : Nat) : Int) := by
        rw [show (8 * (j : Int)).toNat = 8 * j by omega, Int.pow_mul]
        simp
      have e1 : IntKind.u64.wrap ((x : Int) * 2 ^ (8 * (j : Int)).toNat) = (lo : Int) := by
        rw [h2p, ← Int.natCast_mul, ← hlo]
        simp only [IntKind.wrap, IntKind.bits, IntKind.signed]; simp; omega
      have e2 : IntKind.u64.wrap ((x : Int) + 1) = (x : Int) + 1 := by simp only [IntKind.wrap, IntKind.bits, IntKind.signed]; simp; omega
      have e3 : IntKind.u64.wrap (((x : Int) + 1) * 2 ^ (8 * (j : Int)).toNat) = (hi' : Int) + 1 := by
        rw [h2p, ← Int.natCast_one, ← Int.natCast_add, ← Int.natCast_mul, ← hhi1]
        simp only [IntKind.wrap, IntKind.bits, IntKind.signed]; simp; omega
      have e4 : IntKind.u64.wrap (hi' : Int) = (hi' : Int) := by simp only [IntKind.wrap, IntKind.bits, IntKind.signed]; simp; omega
      have hm8 : IntKind.i64.wrap (8 * (j : Int)) = 8 * (j : Int) := IntWalk.i64_in _ ⟨by omega, by omega⟩
      have hlo64 : lo < 18446744073709551616 := by omega
      have hhi64 : hi' < 18446744073709551616 := by omega
      have Hx := Lib.hid hx
      have Hlo := Lib.hid hlo
      have Hhi := Lib.hid hhi
      have Hxi := Lib.hid hxi
      clear hx hlo hhi hpos hhi1 hxi hx4 hlohi hhi32 hx32 h2p
      refine wp_region_here (by kernel_rfl) (by kernel_rfl) ?_
      (repeat (first | (apply wpR_pass rfl; (try simp only [Act.put, List.setIfInBounds_toArray, List.set_cons_succ, List.set_cons_zero])) | (apply wpR_val rfl; (focus (intro w1 hR; obtain ⟨hc, hf⟩ := bcellB hR; (try go_simp); (try exact Eq.refl _); done)); (try simp only [Act.put, List.setIfInBounds_toArray, List.set_cons_succ, List.set_cons_zero])) | (apply wpR_call rfl; (focus (intro w1 hR; obtain ⟨hc, hf⟩ := bcellB hR; (try go_simp); (try exact And.intro rfl rfl); done)); (focus (intro w1 hR; first | exact (meet_calls (hs3.below hR) lo hi' hlo64 hhi64).at_ (by first | omega | (simp; done) | (simp; omega)) hR)); (try simp only [Act.put, List.setIfInBounds_toArray, List.set_cons_succ, List.set_cons_zero])) | (apply wpR_val_want rfl; (focus (intro w1 hR; obtain ⟨hc, hf⟩ := bcellB hR; (try go_simp); (try exact Eq.refl _); done)); (try simp only [Act.put, List.setIfInBounds_toArray, List.set_cons_succ, List.set_cons_zero])) | (apply wpR_call_want rfl; (focus (intro w1 hR; obtain ⟨hc, hf⟩ := bcellB hR; (try go_simp); (try exact And.intro rfl rfl); done)); (focus (intro w1 hR; first | exact (meet_calls (hs3.below hR) lo hi' hlo64 hhi64).at_ (by first | omega | (simp; done) | (simp; omega)) hR)); (try simp only [Act.put, List.setIfInBounds_toArray, List.set_cons_succ, List.set_cons_zero]))))
      refine wpR_nil ?_
      intro w4 hb4
      have hR4 := hR3.below hb4
      have h14 := hR4.c1
      have hrlt4 := hR4.lt
      have hg4 := World.grownBy.trans hg3 (below_grown (r := some r) hb4)
      have hdrop : l.drop pl = b :: l.drop (pl + 1) := Hdrop.out
      rw [hdrop] at Hq
      have hrd := Hq.out
      rw [Wi.rdNum, ← Hx.out, ← Hlo.out, ← Hhi.out] at hrd
      have Hrd := Lib.hid hrd
      clear e1 e2 e3 e4 hm8 hlo64 hhi64 hrd hdrop Hq hR3 hrlt2
      cases hmeet : Wi.meets s lo hi'
      · go_wp2_with fail
        go_ret2
        have hrd := Hrd.out
        rw [hmeet] at hrd
        rw [hrd]
        refine ⟨rfl, ?_, hg4⟩
        have : l.length - (b :: l.drop (pl + 1)).length = pl := by
          have := congrArg List.length Hdrop.out
          rw [← this, List.length_drop]
          have := Hple.out
          omega
        simp only [this]
        exact hR4
      · have hfz : w4.frozen? ⟨r, 1, none⟩ = false := by simp [World.frozen?, show w4.heap[r]? = _ from hR4]
        have hw5 : IntKind.i64.wrap ((pl : Int) + 1) = ((pl + 1 : Nat) : Int) := by rw [IntWalk.i64_in _ ⟨by omega, by omega⟩]; rfl
        have hw6 : IntKind.i64.wrap ((j : Int) - 1) = (j : Int) - 1 := IntWalk.i64_in _ ⟨by omega, by omega⟩
        go_wp2_with fail
        refine ⟨(j : Int) - 1, x, ?_, exU (fun U => ⟨#[.pointer (some ⟨r, 0, none⟩), .int .i64 (i + 1 + j : Nat), sv, U 3, U 4, U 5, .int .u32 0, .bool false, .int .u64 (x : Nat), .int .i64 ((j : Int) - 1), U 10, U 11, U 12, U 13, U 14, U 15, U 16, U 17, U 18, U 19, U 20, U 21, U 22, U 23, U 24, U 25, U 26, U 27, U 28, U 29, U 30, U 31, U 32, U 33, U 34, U 35, U 36, U 37, U 38, U 39, U 40, U 41, U 42, U 43, U 44, U 45, U 46, U 47, U 48, U 49, U 50, U 51, U 52, U 53, U 54, U 55, U 56, U 57, U 58, U 59, U 60, U 61, U 62, U 63], []⟩) rfl, Hxi.out, ?_, ?_, ?_, ?_⟩
        · push_cast; omega
        · have := Hpl.out; omega
        · have hrd := Hrd.out
          rw [hmeet, if_pos rfl] at hrd
          rw [hrd, show i + 1 + j - (i + 1) = j by omega, show at_ + (i + 1) = pl + 1 by have := Hpl.out; omega]
        · rw [show at_ + (i + 1) = pl + 1 by have := Hpl.out; omega]
          exact hR4.set (pl + 1)
        · exact World.grownBy.trans hg4 (setCells_grown w4 r 1 [.int .i64 ((pl + 1 : Nat) : Int)])
  · rintro a w' ⟨z, v, hz, ⟨U, rfl⟩, hv, hat', heq, hR', hg'⟩
    obtain rfl : z = -1 := by omega
    have hv32 : v < 4294967296 := Nat.lt_of_lt_of_le hv (by
      have := Nat.pow_le_pow_right (n := 256) (by decide) hn
      simpa using this)
    rw [Nat.sub_self] at heq
    have Hq := Lib.hid heq
    clear hz heq hv
    have hw : IntKind.u32.wrap ((v : Nat) : Int) = ((v : Nat) : Int) := by simp only [IntKind.wrap, IntKind.bits, IntKind.signed]; simp; omega
    go_wp2_with fail
    go_ret2
    rw [Hq.out]
    refine ⟨rfl, ?_, hg'⟩
    rw [List.length_drop, show l.length - (l.length - (at_ + n)) = at_ + n by omega]
    exact hR'
end Go.Proofs.YtbgfoobcpacfeaaDoor

/- Steps of a drawn region with guards, behind a wrapper that nothing unfolds. -/
namespace Go.Proofs.YtbgfoobcpacfeaaDoor
open Go.RowKit
set_option linter.unusedVariables false

structure WR (P : Program) (ops : Array Oper) (R : World → Prop) (Q : Act → Prop) (l : List Oper) (a : Act) : Prop where
  out : wpR P ops R Q l a
section
variable {P : Program} {ops : Array Oper} {R : World → Prop} {Q : Act → Prop} {a : Act} {o : Oper} {rest : List Oper}
theorem WR.nil (h : Q a) : WR P ops R Q [] a := ⟨wpR_nil h⟩
theorem WR.val {v : Value} (hg : o.guard = none) (hv : ∀ w, R w → (execOp a.eval o).run P w = .ok (.value v) w) (h : WR P ops R Q rest (a.put o.dst v)) : WR P ops R Q (o :: rest) a := ⟨wpR_val hg hv h.out⟩
theorem WR.call {v : Value} {f : FuncId} {args : Array Value} (hg : o.guard = none) (hv : ∀ w, R w → (execOp a.eval o).run P w = .ok (.enter f args) w)
    (hc : ∀ w, R w → Calls P f args w (fun e w'' => e = .returned v ∧ R w'')) (h : WR P ops R Q rest (a.put o.dst v)) : WR P ops R Q (o :: rest) a := ⟨wpR_call hg hv hc h.out⟩
theorem WR.val_want {v : Value} (hg : Region.wanted o (yielded ops a.tmps) = true) (hv : ∀ w, R w → (execOp a.eval o).run P w = .ok (.value v) w) (h : WR P ops R Q rest (a.put o.dst v)) : WR P ops R Q (o :: rest) a := ⟨wpR_val_want hg hv h.out⟩
theorem WR.call_want {v : Value} {f : FuncId} {args : Array Value} (hg : Region.wanted o (yielded ops a.tmps) = true) (hv : ∀ w, R w → (execOp a.eval o).run P w = .ok (.enter f args) w)
    (hc : ∀ w, R w → Calls P f args w (fun e w'' => e = .returned v ∧ R w'')) (h : WR P ops R Q rest (a.put o.dst v)) : WR P ops R Q (o :: rest) a := ⟨wpR_call_want hg hv hc h.out⟩
theorem WR.pass (hw : Region.wanted o (yielded ops a.tmps) = false) (h : WR P ops R Q rest (a.put o.dst undef)) : WR P ops R Q (o :: rest) a := ⟨wpR_pass hw h.out⟩
theorem wp_region_hereW {id : Nat} {Q : Exit → Act → World → Prop} {a : Act} {w : World} {l : List Oper} (hm : P.follows .mixedOrders = true) (hB : Region.lexB .any l.toArray = true)
    (h : WR P l.toArray (Below w.heap.size w) (fun a' => ∀ w', Below w.heap.size w w' → Q .normal a' w') l a) : (Code.region id l.toArray true).wp P Q a w := wp_region_here hm hB h.out
end
end Go.Proofs.YtbgfoobcpacfeaaDoor
