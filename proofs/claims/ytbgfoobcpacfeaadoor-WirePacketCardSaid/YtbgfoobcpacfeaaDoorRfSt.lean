/- The operations of a region that read or write a packet by the document's functions. (Printed by wip/w7gen/mkrflaws.py.) -/
import Derived.Test.YtbgfoobcpacfeaaDoorPk8
import Derived.Test.YtbgfoobcpacfeaaDoorRfDec
namespace Go.Proofs.YtbgfoobcpacfeaaDoor
open Go.RowKit
set_option maxRecDepth 100000
set_option linter.unusedVariables false
set_option linter.unusedSimpArgs false
theorem rdec_enter : Og.Enters Tryd.prog 27 := fun args w => by kernel_rfl
theorem renc_enter : Og.Enters Tryd.prog 21 := fun args w => by kernel_rfl
theorem roomy_enter : Og.Enters Tryd.prog 18 := fun args w => by kernel_rfl
theorem given_enter : Og.Enters Tryd.prog 19 := fun args w => by kernel_rfl
theorem untouched_enter : Og.Enters Tryd.prog 24 := fun args w => by kernel_rfl
theorem spoil_enter : Og.Enters Tryd.prog 25 := fun args w => by kernel_rfl
theorem ld_pv {w : World} {b : Nat} {p : Wi.Pk} {pv : Value} (hP : PkAt w b p pv) (hp : p.Ok) {l : List UInt8} (hr : RB w pv l) : (Instr.loadAt 32 (.pointer (some ⟨b, 42, none⟩))).run Tryd.prog w = .ok pv w := by
  obtain ⟨dp, dc, e⟩ := hr.form
  have h := hP.cd hp
  rw [e] at h ⊢
  exact ld_sl h
section
variable {ops rest : Array Oper} {Q : Exit → Act → World → Prop} {n : Nat} {φ : Nat → Value} {w : World} {a : Act}
/-- The operations that read a packet: call, move, three parts, a place for the packet, two moves. -/
theorem st_rdec {o1 o2 o3 o4 o5 o6 o7 o8 o9 : Oper} {l : List UInt8} {v : Value} (s d1 dm e0 e1 e2 da x1 x2 : Nat) (hF : Og.Fr n a φ) (hr : RB w v l) (hC : Cars w) (hFv : Fives w) (hs : φ s = v)
    (k : ∀ a' w' b pv T, Og.Fr n a' (Og.upd (Og.upd (Og.upd (Og.upd (Og.upd (Og.upd (Og.upd (Og.upd φ d1 T) dm T) e0 (.agg (pkL (Wi.unpack l).1 pv).toArray)) e1 (.int .i64 ((Wi.unpack l).2.1 : Nat))) e2 (.int .i64 (Wi.unpack l).2.2)) da (.pointer (some ⟨b, 0, none⟩))) x1 (.int .i64 ((Wi.unpack l).2.1 : Nat))) x2 (.int .i64 (Wi.unpack l).2.2)) →
      PkAt w' b (Wi.unpack l).1 pv → OB w.heap.size w' pv (Wi.unpack l).1.data → Below w.heap.size w w' → w.heap.size ≤ b → Wi.Pk.Ok (Wi.unpack l).1 → Q .normal a' w')
    (hok : Wi.Pk.Ok (Wi.unpack l).1)
    (h1 : o1.op = .call { callee := .value (.func 27), args := #[.tmp s], argTypes := #[32] } := by rfl) (h2 : o2.op = .move (.tmp d1) := by rfl) (h3 : o3.op = .extract (.tmp dm) 0 := by rfl) (h4 : o4.op = .extract (.tmp dm) 1 := by rfl) (h5 : o5.op = .extract (.tmp dm) 2 := by rfl)
    (h6 : o6.op = .alloc 34 := by rfl) (h7 : o7.op = .store 34 (.tmp da) (.tmp e0) := by rfl) (h8 : o8.op = .assign (.tmp e1) := by rfl) (h9 : o9.op = .assign (.tmp e2) := by rfl)
    (g1 : o1.guard = none := by rfl) (g2 : o2.guard = none := by rfl) (g3 : o3.guard = none := by rfl) (g4 : o4.guard = none := by rfl) (g5 : o5.guard = none := by rfl) (g6 : o6.guard = none := by rfl) (g7 : o7.guard = none := by rfl) (g8 : o8.guard = none := by rfl) (g9 : o9.guard = none := by rfl)
    (t1 : o1.dst = some d1 := by rfl) (t2 : o2.dst = some dm := by rfl) (t3 : o3.dst = some e0 := by rfl) (t4 : o4.dst = some e1 := by rfl) (t5 : o5.dst = some e2 := by rfl) (t6 : o6.dst = some da := by rfl) (t7 : o7.dst = none := by rfl) (t8 : o8.dst = some x1 := by rfl) (t9 : o9.dst = some x2 := by rfl)
    (hn : d1 < n ∧ dm < n ∧ e0 < n ∧ e1 < n ∧ e2 < n ∧ da < n ∧ x1 < n ∧ x2 < n := by decide)
    (hd : (e0 ≠ dm ∧ e1 ≠ dm ∧ e1 ≠ e0 ∧ e2 ≠ e1 ∧ da ≠ e0 ∧ e2 ≠ e0 ∧ da ≠ e1 ∧ da ≠ e2 ∧ x1 ≠ e2) := by decide) :
    wpList Tryd.prog ops Q [o1, o2, o3, o4, o5, o6, o7, o8, o9] a w := by
  obtain ⟨n1, n2, n3, n4, n5, n6, n7, n8⟩ := hn
  obtain ⟨c1, c2, c3, c4, c5, c6, c7, c8, c9⟩ := hd
  refine Og.st_call (f := 27) (args := #[v]) hF g1 t1 n1 (by rw [Og.exec_call h1 rdec_enter rfl]; simp [Og.ev, hs]) ((refDecP_calls hr hC hFv).mono ?_)
  rintro e w1 ⟨pv, rfl, ho, hb⟩
  refine ⟨_, rfl, fun a hF => ?_⟩
  generalize hT : (Value.tuple #[.agg (pkL (Wi.unpack l).1 pv).toArray, .int .i64 ((Wi.unpack l).2.1 : Nat), .int .i64 (Wi.unpack l).2.2]) = T at hF
  refine Og.st_same T hF g2 t2 n2 (by rw [exec_move h2]; simp [Og.ev, Og.upd]) fun a hF => ?_
  refine Og.st_same (.agg (pkL (Wi.unpack l).1 pv).toArray) hF g3 t3 n3 (exec_extract h3 (by simp [Og.ev, Og.upd]; exact hT.symm) rfl w1) fun a hF => ?_
  refine Og.st_same (.int .i64 ((Wi.unpack l).2.1 : Nat)) hF g4 t4 n4 (exec_extract h4 (by simp [Og.ev, Og.upd, c1.symm]; exact hT.symm) rfl w1) fun a hF => ?_
  refine Og.st_same (.int .i64 (Wi.unpack l).2.2) hF g5 t5 n5 (exec_extract h5 (by simp [Og.ev, Og.upd, c1.symm, c2.symm]; exact hT.symm) rfl w1) fun a hF => ?_
  refine Og.st_val (w' := w1.alloc (.cells (pkL (Wi.Pk.zero 0) (.slice none 0 0)).toArray 34)) (.pointer (some ⟨w1.heap.size, 0, none⟩)) hF g6 t6 n6 (alloc_pk h6 w1) fun a hF => ?_
  have hz2 := heap_new w1 (.cells (pkL (Wi.Pk.zero 0) (.slice none 0 0)).toArray 34) w1.heap.size rfl
  have hone : pv.oneCell' = true := by
    obtain ⟨q, c, e⟩ := ho.rb.form
    rw [e]; rfl
  refine Og.st_skip (w' := (w1.alloc (.cells (pkL (Wi.Pk.zero 0) (.slice none 0 0)).toArray 34)).setCells w1.heap.size 0 (pkL (Wi.unpack l).1 pv)) hF g7 t7
    (exec_store (o := 0) (vs := pkL (Wi.unpack l).1 pv) (cs := pkL (Wi.Pk.zero 0) (.slice none 0 0)) h7 (by simp [Og.ev, Og.upd]) (by simp [Og.ev, Og.upd, c3.symm, c5.symm, c6.symm]; rfl) hz2 (by rw [pkL_length hok, pkL_length (Wi.Pk.zero_ok 0)]; decide) (by rw [pkL_length hok]; exact pk_i) (pkL_one _ pv hone)) fun a hF => ?_
  have hP := PkAt.store hz2 0 _ (Wi.unpack l).1 pv (set_all hok (Wi.Pk.zero_ok 0))
  have hb2 : Below w1.heap.size w1 ((w1.alloc (.cells (pkL (Wi.Pk.zero 0) (.slice none 0 0)).toArray 34)).setCells w1.heap.size 0 (pkL (Wi.unpack l).1 pv)) :=
    (below_alloc1 w1 _).grown (setCells_grown _ w1.heap.size 0 _) (by simp) (fun k hk => by injection hk with hk; omega)
  generalize (w1.alloc (.cells (pkL (Wi.Pk.zero 0) (.slice none 0 0)).toArray 34)).setCells w1.heap.size 0 (pkL (Wi.unpack l).1 pv) = w2 at *
  refine Og.st_same (.int .i64 ((Wi.unpack l).2.1 : Nat)) hF g8 t8 n7 (by rw [exec_assign h8]; simp [Og.ev, Og.upd, c4.symm, c7.symm]) fun a hF => ?_
  refine Og.st_same (.int .i64 (Wi.unpack l).2.2) hF g9 t9 n8 (by rw [exec_assign h9]; simp [Og.ev, Og.upd, c8.symm, c9.symm]) fun a hF => ?_
  exact wpList_nil (k a w2 w1.heap.size pv T hF hP (ho.below hb2) (hb.trans (hb2.mono hb.size)) hb.size hok)
/-- The operations that write a packet: call, move, two parts, two moves. -/
theorem st_renc {o1 o2 o3 o4 o5 o6 : Oper} {p : Wi.Pk} {pv : Value} (s d1 dm e0 e1 x0 x1 : Nat) (hF : Og.Fr n a φ) (hp : p.Ok) (hr : RB w pv p.data) (hC : Cars w) (hFv : Fives w) (hs : φ s = .agg (pkL p pv).toArray)
    (k : ∀ a' w' v T, Og.Fr n a' (Og.upd (Og.upd (Og.upd (Og.upd (Og.upd (Og.upd φ d1 T) dm T) e0 v) e1 (.int .i64 (Wi.packErr p))) x0 v) x1 (.int .i64 (Wi.packErr p))) →
      OB w.heap.size w' v (Wi.packOut p) → Below w.heap.size w w' → Q .normal a' w')
    (h1 : o1.op = .call { callee := .value (.func 21), args := #[.tmp s], argTypes := #[34] } := by rfl) (h2 : o2.op = .move (.tmp d1) := by rfl) (h3 : o3.op = .extract (.tmp dm) 0 := by rfl) (h4 : o4.op = .extract (.tmp dm) 1 := by rfl)
    (h5 : o5.op = .assign (.tmp e0) := by rfl) (h6 : o6.op = .assign (.tmp e1) := by rfl)
    (g1 : o1.guard = none := by rfl) (g2 : o2.guard = none := by rfl) (g3 : o3.guard = none := by rfl) (g4 : o4.guard = none := by rfl) (g5 : o5.guard = none := by rfl) (g6 : o6.guard = none := by rfl)
    (t1 : o1.dst = some d1 := by rfl) (t2 : o2.dst = some dm := by rfl) (t3 : o3.dst = some e0 := by rfl) (t4 : o4.dst = some e1 := by rfl) (t5 : o5.dst = some x0 := by rfl) (t6 : o6.dst = some x1 := by rfl)
    (hn : d1 < n ∧ dm < n ∧ e0 < n ∧ e1 < n ∧ x0 < n ∧ x1 < n := by decide)
    (hd : (e0 ≠ dm ∧ e1 ≠ e0 ∧ x0 ≠ e1) := by decide) :
    wpList Tryd.prog ops Q [o1, o2, o3, o4, o5, o6] a w := by
  obtain ⟨n1, n2, n3, n4, n5, n6⟩ := hn
  obtain ⟨c1, c2, c3⟩ := hd
  refine Og.st_call (f := 21) (args := #[.agg (pkL p pv).toArray]) hF g1 t1 n1 (by rw [Og.exec_call h1 renc_enter rfl]; simp [Og.ev, hs]) ((refEncP_same hp hr hC hFv).mono ?_)
  rintro e w1 ⟨v, rfl, ho, hb⟩
  refine ⟨_, rfl, fun a hF => ?_⟩
  generalize hT : (Value.tuple #[v, .int .i64 (Wi.packErr p)]) = T at hF
  refine Og.st_same T hF g2 t2 n2 (by rw [exec_move h2]; simp [Og.ev, Og.upd]) fun a hF => ?_
  refine Og.st_same v hF g3 t3 n3 (exec_extract h3 (by simp [Og.ev, Og.upd]; exact hT.symm) rfl w1) fun a hF => ?_
  refine Og.st_same (.int .i64 (Wi.packErr p)) hF g4 t4 n4 (exec_extract h4 (by simp [Og.ev, Og.upd, c1.symm]; exact hT.symm) rfl w1) fun a hF => ?_
  refine Og.st_same v hF g5 t5 n5 (by rw [exec_assign h5]; simp [Og.ev, Og.upd, c2.symm]) fun a hF => ?_
  refine Og.st_same (.int .i64 (Wi.packErr p)) hF g6 t6 n6 (by rw [exec_assign h6]; simp [Og.ev, Og.upd, c3.symm]) fun a hF => ?_
  exact wpList_nil (k a w1 v T hF ho hb)
end
end Go.Proofs.YtbgfoobcpacfeaaDoor
