/- The table of commands: each command's name, and its fields in memory. (Printed by wip/w7gen/mkcmd.py.) -/
import Derived.Test.YtbgfoobcpacfeaaDoorKt
import Derived.Deep.DeepCutAuto
import Derived.Laws.CopyOwn
namespace Go.Proofs.YtbgfoobcpacfeaaDoor
open Go.RowKit
set_option maxRecDepth 100000
set_option linter.unusedVariables false
set_option linter.unusedSimpArgs false

@[go_sem] theorem run_store_func {P : Program} {w : World} {a : Addr} {m : Mode} (f : Fn) (x y : Array Value) : (store a (.func f x y) m).run P w = stored P w a (.func f x y) m := run_store P w a _ m rfl

/-- A field of a packet: a number at a place; the identifiers; a digest; the data. -/
inductive Fd where
  | num (place : Int) (may : FuncId)
  | gens
  | sum (only : FuncId)
  | dat (may : FuncId)
abbrev fnV (f : FuncId) : Value := .func (.func f) #[] #[]
theorem results_cell {P : Program} {fn : Func} {s : Nat} {T : TypeId} {tmps : Array Value} {ad : Addr} {w : World} {v : Value} (hf : fn.results = #[.cell s T]) (hp : tmps.getD s undef = .pointer (some ad)) (hl : (loadVar T ad).run P w = .ok v w) :
    (results fn tmps).run P w = .ok v w := by
  unfold results
  rw [hf]
  rw [Array.getD_eq_getD_getElem?] at hp
  simp [asAddr, hp, hl]
def Fd.t : Fd → TypeId
  | .num _ _ => 107
  | .gens => 117
  | .sum _ => 113
  | .dat _ => 115
/-- The field as a struct. -/
def fdB : Fd → Value
  | .num p f => .agg #[.int .i64 p, fnV f]
  | .gens => .agg #[]
  | .sum f => .agg #[fnV f]
  | .dat f => .agg #[fnV f]
/-- The field as a value of the interface. -/
def fdV (x : Fd) : Value := .iface x.t (fdB x)
def cmdV (s : List UInt8) (v : Value) : Value := .agg #[.string ⟨s.toArray⟩, v]

/-- The table: by command, the name and the fields. -/
def cmdTab : List (List UInt8 × List Fd) := [
  ([], []),
  ([70, 101, 97, 116, 117, 114, 101], [.num 0 65, .num 3 66, .num 4 65]),
  ([67, 104, 97, 108, 108, 101, 110, 103, 101], [.dat 67]),
  ([82, 101, 115, 112, 111, 110, 115, 101], [.sum 63]),
  ([83, 105, 122, 101, 115], [.num 1 68, .num 3 69, .num 4 65]),
  ([73, 100, 115], [.num 3 70, .num 4 71, .gens]),
  ([83, 116, 97, 116, 101], [.num 4 72]),
  ([66, 105, 116, 115], [.num 1 73, .num 3 74, .dat 75]),
  ([68, 97, 116, 97], [.num 0 59, .num 1 60, .num 2 61, .dat 64]),
  ([90, 101, 114, 111], [.num 0 59, .num 1 60, .num 2 61]),
  ([82, 101, 99, 118, 65, 99, 107], [.num 0 59, .num 1 60]),
  ([87, 114, 105, 116, 101, 65, 99, 107], [.num 0 59, .num 1 60]),
  ([78, 101, 103, 65, 99, 107], [.num 0 59, .num 1 60, .num 4 76]),
  ([66, 97, 114, 114, 105, 101, 114], [.num 2 61, .num 3 62]),
  ([66, 97, 114, 114, 105, 101, 114, 65, 99, 107], [.num 2 61, .num 3 62]),
  ([83, 117, 109, 82, 101, 113, 117, 101, 115, 116], [.num 0 59, .num 1 60, .num 4 77, .sum 78]),
  ([73, 110, 83, 121, 110, 99], [.num 0 59, .num 1 60]),
  ([83, 121, 110, 99, 68, 97, 116, 97], [.num 0 59, .num 1 60, .dat 64]),
  ([83, 121, 110, 99, 65, 99, 107], [.num 0 59, .num 1 60]),
  ([83, 121, 110, 99, 68, 111, 110, 101], [.num 3 65]),
  ([86, 101, 114, 105, 102, 121, 82, 101, 113, 117, 101, 115, 116], [.num 0 59, .num 1 60, .sum 63]),
  ([86, 101, 114, 105, 102, 121, 82, 101, 112, 108, 121], [.num 0 59, .num 1 60, .num 4 77]),
  ([86, 101, 114, 105, 102, 121, 68, 111, 110, 101], [.num 3 65]),
  ([71, 101, 110, 115], [.gens]),
  ([82, 101, 97, 100, 82, 101, 113, 117, 101, 115, 116], [.num 0 59, .num 1 60]),
  ([82, 101, 97, 100, 82, 101, 112, 108, 121], [.num 0 59, .num 1 60, .num 4 79, .dat 80])]


/-- The frame is φ. -/
def Fr (n : Nat) (a : Act) (φ : Nat → Value) : Prop := a.defers = [] ∧ a.tmps.size = n ∧ ∀ t, a.tmps.getD t undef = φ t
def upd (φ : Nat → Value) (d : Nat) (v : Value) : Nat → Value := fun t => if t = d then v else φ t
def ev (φ : Nat → Value) : Operand → Value
  | .tmp t => φ t
  | .const v => v
  | .global g => .pointer (some ⟨g, 0, none⟩)
  | .func f => .func (.func f) #[] #[]
theorem Fr.eval {n : Nat} {a : Act} {φ : Nat → Value} (h : Fr n a φ) : a.eval = ev φ := by
  funext x
  cases x with
  | tmp t => exact h.2.2 t
  | const v => rfl
  | global g => rfl
  | func f => rfl
theorem Fr.put {n : Nat} {a : Act} {φ : Nat → Value} (h : Fr n a φ) (d : Nat) (v : Value) (hd : d < n) : Fr n (a.put (some d) v) (upd φ d v) := by
  obtain ⟨h1, h2, h3⟩ := h
  refine ⟨h1, by simpa [Act.put] using h2, fun t => ?_⟩
  have := h3 t
  simp only [Act.put, upd, Array.getD_eq_getD_getElem?] at this ⊢
  by_cases e : t = d
  · subst e
    simp [Array.getElem?_setIfInBounds, h2, hd]
  · rw [if_neg e, Array.getElem?_setIfInBounds_ne (Ne.symm e)]
    exact this

section
variable {P : Program} {ops : Array Oper} {rest : List Oper} {o : Oper} {a : Act} {Q : Exit → Act → World → Prop} {n : Nat} {φ : Nat → Value} {w : World}
theorem fr_start {l : List Oper} {t : Array Value} (hn : t.size = n) (h : ∀ a, Fr n a (fun k => t.getD k undef) → wpList P ops Q l a w) : wpList P ops Q l ⟨t, []⟩ w := h _ ⟨rfl, hn, fun _ => rfl⟩
/-- An operation that only computes. -/
theorem st_val {d : Nat} (v : Value) (hF : Fr n a φ) (hg : o.guard = none) (hd : o.dst = some d) (hn : d < n) (hr : ∀ w, (execOp (ev φ) o).run P w = .ok (.value v) w) (k : ∀ a', Fr n a' (upd φ d v) → wpList P ops Q rest a' w) : wpList P ops Q (o :: rest) a w := by
  refine wpList_plain hg fun K hK => ?_
  unfold Oper.wp
  rw [hF.eval, hr w]
  show K (a.put o.dst v) w
  rw [hd]
  exact hK _ _ (k _ (hF.put d v hn))
/-- An operation that reads. -/
theorem st_load {d : Nat} (v : Value) (hF : Fr n a φ) (hg : o.guard = none) (hd : o.dst = some d) (hn : d < n) (hr : (execOp (ev φ) o).run P w = .ok (.value v) w) (k : ∀ a', Fr n a' (upd φ d v) → wpList P ops Q rest a' w) : wpList P ops Q (o :: rest) a w := by
  refine wpList_plain hg fun K hK => ?_
  unfold Oper.wp
  rw [hF.eval, hr]
  show K (a.put o.dst v) w
  rw [hd]
  exact hK _ _ (k _ (hF.put d v hn))
/-- Blocks that lie so. -/
def Has (T : TypeId) (tbl : List (Nat × Array Value)) (w : World) : Prop := ∀ p ∈ tbl, w.heap[p.1]? = some (.cells p.2 T (0, 0))
theorem Has.nil_ (T : TypeId) (w : World) : Has T [] w := fun p h => by cases h
theorem Has.below {T : TypeId} {tbl : List (Nat × Array Value)} {w' : World} (h : Has T tbl w) (hb : Below w.heap.size w w') : Has T tbl w' := fun p hp => blk_below (h p hp) hb
/-- A slice laid out. -/
theorem st_slice {d : Nat} (B : Nat) (W : World) (T : TypeId) (tbl : List (Nat × Array Value)) (m : Nat) (cs : Array Value) (hF : Fr n a φ) (hb : Below B W w) (hB : B ≤ W.heap.size) (ht : Has T tbl w) (hg : o.guard = none) (hd : o.dst = some d) (hn : d < n)
    (hr : ∀ w, (execOp (ev φ) o).run P w = .ok (.value (.slice (some ⟨w.heap.size, 0, none⟩) m m)) (w.alloc (.cells cs T)))
    (k : ∀ a' w' b, Fr n a' (upd φ d (.slice (some ⟨b, 0, none⟩) m m)) → Below B W w' → B ≤ b → Has T ((b, cs) :: tbl) w' → wpList P ops Q rest a' w') : wpList P ops Q (o :: rest) a w := by
  refine wpList_plain hg fun K hK => ?_
  unfold Oper.wp
  rw [hF.eval, hr w]
  show K (a.put o.dst _) (w.alloc _)
  rw [hd]
  have hs := Nat.le_trans hB hb.size
  refine hK _ _ (k _ _ _ (hF.put d _ hn) (hb.alloc hs _) hs ?_)
  intro p hp
  rcases List.mem_cons.1 hp with rfl | hp
  · exact heap_new _ _ _ rfl
  · exact blk_below (ht p hp) (below_alloc1 w _)
end

/-- What the boxes of the six fields hold. -/
structure Six (B : Nat) (w : World) (b1 b2 b3 b4 b5 b6 : Nat) : Prop where
  k1 : w.heap[b1]? = some (.cells #[.int .i64 0, fnV 59] 107 (0, 0)) ∧ b1 < B
  k2 : w.heap[b2]? = some (.cells #[.int .i64 1, fnV 60] 107 (0, 0)) ∧ b2 < B
  k3 : w.heap[b3]? = some (.cells #[.int .i64 2, fnV 61] 107 (0, 0)) ∧ b3 < B
  k4 : w.heap[b4]? = some (.cells #[.int .i64 3, fnV 62] 107 (0, 0)) ∧ b4 < B
  k5 : w.heap[b5]? = some (.cells #[fnV 63] 113 (0, 0)) ∧ b5 < B
  k6 : w.heap[b6]? = some (.cells #[fnV 64] 115 (0, 0)) ∧ b6 < B

theorem Six.below {B : Nat} {w w' : World} {b1 b2 b3 b4 b5 b6 : Nat} (h : Six B w b1 b2 b3 b4 b5 b6) (hb : Below B w w') : Six B w' b1 b2 b3 b4 b5 b6 :=
  ⟨⟨(hb.block _ h.k1.2).trans h.k1.1, h.k1.2⟩, ⟨(hb.block _ h.k2.2).trans h.k2.1, h.k2.2⟩, ⟨(hb.block _ h.k3.2).trans h.k3.1, h.k3.2⟩, ⟨(hb.block _ h.k4.2).trans h.k4.1, h.k4.2⟩, ⟨(hb.block _ h.k5.2).trans h.k5.1, h.k5.2⟩, ⟨(hb.block _ h.k6.2).trans h.k6.1, h.k6.2⟩⟩
theorem load_two {w : World} {φ : Nat → Value} {s b : Nat} {o : Oper} {x y : Value} (ho : o.op = .load 107 (.tmp s)) (hs : φ s = .pointer (some ⟨b, 0, none⟩)) (hk : w.heap[b]? = some (.cells #[x, y] 107 (0, 0))) :
    (execOp (ev φ) o).run Tryd.prog w = .ok (.value (.agg #[x, y])) w := by
  have hc := has_cell hk
  unfold execOp
  rw [ho]
  show Sem.run _ (do pure (Next.value (← Instr.loadAt _ (φ s)))) w = _
  rw [hs]
  go_simp
theorem load_one {w : World} {φ : Nat → Value} {s b : Nat} {o : Oper} {T : TypeId} {x : Value} (hT : T = 113 ∨ T = 115) (ho : o.op = .load T (.tmp s)) (hs : φ s = .pointer (some ⟨b, 0, none⟩)) (hk : w.heap[b]? = some (.cells #[x] T (0, 0))) :
    (execOp (ev φ) o).run Tryd.prog w = .ok (.value (.agg #[x])) w := by
  have hc := has_cell hk
  unfold execOp
  rw [ho]
  show Sem.run _ (do pure (Next.value (← Instr.loadAt _ (φ s)))) w = _
  rw [hs]
  rcases hT with rfl | rfl
  · go_simp
  · go_simp

/-- The answer: the names and where the fields lie. -/
def cmdCells (n : Nat → Nat) : List Value := [.string ⟨[].toArray⟩, .slice none 0 0, .string ⟨[70, 101, 97, 116, 117, 114, 101].toArray⟩, .slice (some ⟨n 1, 0, none⟩) 3 3, .string ⟨[67, 104, 97, 108, 108, 101, 110, 103, 101].toArray⟩, .slice (some ⟨n 2, 0, none⟩) 1 1, .string ⟨[82, 101, 115, 112, 111, 110, 115, 101].toArray⟩, .slice (some ⟨n 3, 0, none⟩) 1 1, .string ⟨[83, 105, 122, 101, 115].toArray⟩, .slice (some ⟨n 4, 0, none⟩) 3 3, .string ⟨[73, 100, 115].toArray⟩, .slice (some ⟨n 5, 0, none⟩) 3 3, .string ⟨[83, 116, 97, 116, 101].toArray⟩, .slice (some ⟨n 6, 0, none⟩) 1 1, .string ⟨[66, 105, 116, 115].toArray⟩, .slice (some ⟨n 7, 0, none⟩) 3 3, .string ⟨[68, 97, 116, 97].toArray⟩, .slice (some ⟨n 8, 0, none⟩) 4 4, .string ⟨[90, 101, 114, 111].toArray⟩, .slice (some ⟨n 9, 0, none⟩) 3 3, .string ⟨[82, 101, 99, 118, 65, 99, 107].toArray⟩, .slice (some ⟨n 10, 0, none⟩) 2 2, .string ⟨[87, 114, 105, 116, 101, 65, 99, 107].toArray⟩, .slice (some ⟨n 11, 0, none⟩) 2 2, .string ⟨[78, 101, 103, 65, 99, 107].toArray⟩, .slice (some ⟨n 12, 0, none⟩) 3 3, .string ⟨[66, 97, 114, 114, 105, 101, 114].toArray⟩, .slice (some ⟨n 13, 0, none⟩) 2 2, .string ⟨[66, 97, 114, 114, 105, 101, 114, 65, 99, 107].toArray⟩, .slice (some ⟨n 14, 0, none⟩) 2 2, .string ⟨[83, 117, 109, 82, 101, 113, 117, 101, 115, 116].toArray⟩, .slice (some ⟨n 15, 0, none⟩) 4 4, .string ⟨[73, 110, 83, 121, 110, 99].toArray⟩, .slice (some ⟨n 16, 0, none⟩) 2 2, .string ⟨[83, 121, 110, 99, 68, 97, 116, 97].toArray⟩, .slice (some ⟨n 17, 0, none⟩) 3 3, .string ⟨[83, 121, 110, 99, 65, 99, 107].toArray⟩, .slice (some ⟨n 18, 0, none⟩) 2 2, .string ⟨[83, 121, 110, 99, 68, 111, 110, 101].toArray⟩, .slice (some ⟨n 19, 0, none⟩) 1 1, .string ⟨[86, 101, 114, 105, 102, 121, 82, 101, 113, 117, 101, 115, 116].toArray⟩, .slice (some ⟨n 20, 0, none⟩) 3 3, .string ⟨[86, 101, 114, 105, 102, 121, 82, 101, 112, 108, 121].toArray⟩, .slice (some ⟨n 21, 0, none⟩) 3 3, .string ⟨[86, 101, 114, 105, 102, 121, 68, 111, 110, 101].toArray⟩, .slice (some ⟨n 22, 0, none⟩) 1 1, .string ⟨[71, 101, 110, 115].toArray⟩, .slice (some ⟨n 23, 0, none⟩) 1 1, .string ⟨[82, 101, 97, 100, 82, 101, 113, 117, 101, 115, 116].toArray⟩, .slice (some ⟨n 24, 0, none⟩) 2 2, .string ⟨[82, 101, 97, 100, 82, 101, 112, 108, 121].toArray⟩, .slice (some ⟨n 25, 0, none⟩) 4 4]

/-- The command's fields lie so. -/
def CmdsAt (B : Nat) (n : Nat → Nat) (w : World) : Prop := ∀ i c, 1 ≤ i → cmdTab[i]? = some c → w.heap[n i]? = some (.cells (c.2.map fdV).toArray 79 (0, 0)) ∧ B ≤ n i
theorem CmdsAt.below {B : Nat} {n : Nat → Nat} {w w' : World} (h : CmdsAt B n w) (hb : Below w.heap.size w w') : CmdsAt B n w' := fun i c hi hc => ⟨blk_below (h i c hi hc).1 hb, (h i c hi hc).2⟩

abbrev cmd0 : Array Value := #[.string ⟨#[]⟩, .slice none 0 0, .string ⟨#[]⟩, .slice none 0 0, .string ⟨#[]⟩, .slice none 0 0, .string ⟨#[]⟩, .slice none 0 0, .string ⟨#[]⟩, .slice none 0 0, .string ⟨#[]⟩, .slice none 0 0, .string ⟨#[]⟩, .slice none 0 0, .string ⟨#[]⟩, .slice none 0 0, .string ⟨#[]⟩, .slice none 0 0, .string ⟨#[]⟩, .slice none 0 0, .string ⟨#[]⟩, .slice none 0 0, .string ⟨#[]⟩, .slice none 0 0, .string ⟨#[]⟩, .slice none 0 0, .string ⟨#[]⟩, .slice none 0 0, .string ⟨#[]⟩, .slice none 0 0, .string ⟨#[]⟩, .slice none 0 0, .string ⟨#[]⟩, .slice none 0 0, .string ⟨#[]⟩, .slice none 0 0, .string ⟨#[]⟩, .slice none 0 0, .string ⟨#[]⟩, .slice none 0 0, .string ⟨#[]⟩, .slice none 0 0, .string ⟨#[]⟩, .slice none 0 0, .string ⟨#[]⟩, .slice none 0 0, .string ⟨#[]⟩, .slice none 0 0, .string ⟨#[]⟩, .slice none 0 0, .string ⟨#[]⟩, .slice none 0 0]

set_option maxHeartbeats 40000000 in
theorem commands_calls (w0 : World) : Calls Tryd.prog 40 #[] w0 fun e w' => ∃ n, e = .returned (.agg (cmdCells n).toArray) ∧ CmdsAt w0.heap.size n w' ∧ Below w0.heap.size w0 w' := by
  go_enter Tryd.func40, Tryd.ntmps40
  go_upto_region 7 with fail
  rename_i hnext
  have h6 : Six (w0.heap.size + 7) (((((((w0.alloc (.cells cmd0 75)).alloc (.cells #[.int .i64 0, fnV 59] 107)).alloc (.cells #[.int .i64 1, fnV 60] 107)).alloc (.cells #[.int .i64 2, fnV 61] 107)).alloc (.cells #[.int .i64 3, fnV 62] 107)).alloc (.cells #[fnV 63] 113)).alloc (.cells #[fnV 64] 115))
      (w0.heap.size + 1) (w0.heap.size + 1 + 1) (w0.heap.size + 1 + 1 + 1) (w0.heap.size + 1 + 1 + 1 + 1) (w0.heap.size + 1 + 1 + 1 + 1 + 1) (w0.heap.size + 1 + 1 + 1 + 1 + 1 + 1) := by
    refine ⟨⟨?_, by omega⟩, ⟨?_, by omega⟩, ⟨?_, by omega⟩, ⟨?_, by omega⟩, ⟨?_, by omega⟩, ⟨?_, by omega⟩⟩
    all_goals repeat (first | exact heap_new _ _ _ (by simp) | refine (heap_old _ _ _ (by first | (simp; done) | (simp; omega))).trans ?_)
  have hk0 : (((((((w0.alloc (.cells cmd0 75)).alloc (.cells #[.int .i64 0, fnV 59] 107)).alloc (.cells #[.int .i64 1, fnV 60] 107)).alloc (.cells #[.int .i64 2, fnV 61] 107)).alloc (.cells #[.int .i64 3, fnV 62] 107)).alloc (.cells #[fnV 63] 113)).alloc (.cells #[fnV 64] 115)).heap[w0.heap.size]? = some (.cells cmd0 75 (0, 0)) := by
    repeat (first | exact heap_new _ _ _ (by simp) | refine (heap_old _ _ _ (by first | (simp; done) | (simp; omega))).trans ?_)
  have hsz : (((((((w0.alloc (.cells cmd0 75)).alloc (.cells #[.int .i64 0, fnV 59] 107)).alloc (.cells #[.int .i64 1, fnV 60] 107)).alloc (.cells #[.int .i64 2, fnV 61] 107)).alloc (.cells #[.int .i64 3, fnV 62] 107)).alloc (.cells #[fnV 63] 113)).alloc (.cells #[fnV 64] 115)).heap.size = w0.heap.size + 7 := by simp
  have hb7 : Below w0.heap.size w0 (((((((w0.alloc (.cells cmd0 75)).alloc (.cells #[.int .i64 0, fnV 59] 107)).alloc (.cells #[.int .i64 1, fnV 60] 107)).alloc (.cells #[.int .i64 2, fnV 61] 107)).alloc (.cells #[.int .i64 3, fnV 62] 107)).alloc (.cells #[fnV 63] 113)).alloc (.cells #[fnV 64] 115)) := by
    repeat (first | exact Below.refl _ _ | refine Below.alloc ?_ (by simp; try omega) _)
  have hW := Lib.hid (show True from trivial)
  generalize ((((((w0.alloc (.cells cmd0 75)).alloc (.cells #[.int .i64 0, fnV 59] 107)).alloc (.cells #[.int .i64 1, fnV 60] 107)).alloc (.cells #[.int .i64 2, fnV 61] 107)).alloc (.cells #[.int .i64 3, fnV 62] 107)).alloc (.cells #[fnV 63] 113)).alloc (.cells #[fnV 64] 115) = W at *
  refine wp_region_lit ?_
  refine fr_start (n := 183) rfl ?_
  intro a hF
  have hB : w0.heap.size + 7 ≤ W.heap.size := by omega
  have hb := Below.refl (w0.heap.size + 7) W
  obtain ⟨w, hw⟩ : ∃ w, w = W := ⟨_, rfl⟩
  rw [← hw]
  rw [show Below (w0.heap.size + 7) W W ↔ Below (w0.heap.size + 7) W w by rw [hw]] at hb
  have ht := Has.nil_ 79 w
  clear hw hW
  refine st_val (cmdV [] (.slice none 0 0)) hF rfl rfl (by decide) (fun w => by kernel_rfl) ?_
  clear hF
  intro a hF
  refine st_val (fdB (.num 0 65)) hF rfl rfl (by decide) (fun w => by kernel_rfl) ?_
  clear hF
  intro a hF
  refine st_val (fdV (.num 0 65)) hF rfl rfl (by decide) (fun w => by kernel_rfl) ?_
  clear hF
  intro a hF
  refine st_val (fdB (.num 3 66)) hF rfl rfl (by decide) (fun w => by kernel_rfl) ?_
  clear hF
  intro a hF
  refine st_val (fdV (.num 3 66)) hF rfl rfl (by decide) (fun w => by kernel_rfl) ?_
  clear hF
  intro a hF
  refine st_val (fdB (.num 4 65)) hF rfl rfl (by decide) (fun w => by kernel_rfl) ?_
  clear hF
  intro a hF
  refine st_val (fdV (.num 4 65)) hF rfl rfl (by decide) (fun w => by kernel_rfl) ?_
  clear hF
  intro a hF
  refine st_slice (w0.heap.size + 7) W 79 _ 3 (#[fdV (.num 0 65), fdV (.num 3 66), fdV (.num 4 65)]) hF hb hB ht rfl rfl (by decide) (fun w => by kernel_rfl) ?_
  clear hF hb ht
  intro a w n1 hF hb hn1 ht
  refine st_val (cmdV [70, 101, 97, 116, 117, 114, 101] (.slice (some ⟨n1, 0, none⟩) 3 3)) hF rfl rfl (by decide) (fun w => by kernel_rfl) ?_
  clear hF
  intro a hF
  refine st_val (fdB (.dat 67)) hF rfl rfl (by decide) (fun w => by kernel_rfl) ?_
  clear hF
  intro a hF
  refine st_val (fdV (.dat 67)) hF rfl rfl (by decide) (fun w => by kernel_rfl) ?_
  clear hF
  intro a hF
  refine st_slice (w0.heap.size + 7) W 79 _ 1 (#[fdV (.dat 67)]) hF hb hB ht rfl rfl (by decide) (fun w => by kernel_rfl) ?_
  clear hF hb ht
  intro a w n2 hF hb hn2 ht
  refine st_val (cmdV [67, 104, 97, 108, 108, 101, 110, 103, 101] (.slice (some ⟨n2, 0, none⟩) 1 1)) hF rfl rfl (by decide) (fun w => by kernel_rfl) ?_
  clear hF
  intro a hF
  refine st_load (fdB (.sum 63)) hF rfl rfl (by decide) (load_one (.inl rfl) rfl rfl (h6.below hb).k5.1) ?_
  clear hF
  intro a hF
  refine st_val (fdV (.sum 63)) hF rfl rfl (by decide) (fun w => by kernel_rfl) ?_
  clear hF
  intro a hF
  refine st_slice (w0.heap.size + 7) W 79 _ 1 (#[fdV (.sum 63)]) hF hb hB ht rfl rfl (by decide) (fun w => by kernel_rfl) ?_
  clear hF hb ht
  intro a w n3 hF hb hn3 ht
  refine st_val (cmdV [82, 101, 115, 112, 111, 110, 115, 101] (.slice (some ⟨n3, 0, none⟩) 1 1)) hF rfl rfl (by decide) (fun w => by kernel_rfl) ?_
  clear hF
  intro a hF
  refine st_val (fdB (.num 1 68)) hF rfl rfl (by decide) (fun w => by kernel_rfl) ?_
  clear hF
  intro a hF
  refine st_val (fdV (.num 1 68)) hF rfl rfl (by decide) (fun w => by kernel_rfl) ?_
  clear hF
  intro a hF
  refine st_val (fdB (.num 3 69)) hF rfl rfl (by decide) (fun w => by kernel_rfl) ?_
  clear hF
  intro a hF
  refine st_val (fdV (.num 3 69)) hF rfl rfl (by decide) (fun w => by kernel_rfl) ?_
  clear hF
  intro a hF
  refine st_val (fdB (.num 4 65)) hF rfl rfl (by decide) (fun w => by kernel_rfl) ?_
  clear hF
  intro a hF
  refine st_val (fdV (.num 4 65)) hF rfl rfl (by decide) (fun w => by kernel_rfl) ?_
  clear hF
  intro a hF
  refine st_slice (w0.heap.size + 7) W 79 _ 3 (#[fdV (.num 1 68), fdV (.num 3 69), fdV (.num 4 65)]) hF hb hB ht rfl rfl (by decide) (fun w => by kernel_rfl) ?_
  clear hF hb ht
  intro a w n4 hF hb hn4 ht
  refine st_val (cmdV [83, 105, 122, 101, 115] (.slice (some ⟨n4, 0, none⟩) 3 3)) hF rfl rfl (by decide) (fun w => by kernel_rfl) ?_
  clear hF
  intro a hF
  refine st_val (fdB (.num 3 70)) hF rfl rfl (by decide) (fun w => by kernel_rfl) ?_
  clear hF
  intro a hF
  refine st_val (fdV (.num 3 70)) hF rfl rfl (by decide) (fun w => by kernel_rfl) ?_
  clear hF
  intro a hF
  refine st_val (fdB (.num 4 71)) hF rfl rfl (by decide) (fun w => by kernel_rfl) ?_
  clear hF
  intro a hF
  refine st_val (fdV (.num 4 71)) hF rfl rfl (by decide) (fun w => by kernel_rfl) ?_
  clear hF
  intro a hF
  refine st_val (fdB .gens) hF rfl rfl (by decide) (fun w => by kernel_rfl) ?_
  clear hF
  intro a hF
  refine st_val (fdV (.gens)) hF rfl rfl (by decide) (fun w => by kernel_rfl) ?_
  clear hF
  intro a hF
  refine st_slice (w0.heap.size + 7) W 79 _ 3 (#[fdV (.num 3 70), fdV (.num 4 71), fdV (.gens)]) hF hb hB ht rfl rfl (by decide) (fun w => by kernel_rfl) ?_
  clear hF hb ht
  intro a w n5 hF hb hn5 ht
  refine st_val (cmdV [73, 100, 115] (.slice (some ⟨n5, 0, none⟩) 3 3)) hF rfl rfl (by decide) (fun w => by kernel_rfl) ?_
  clear hF
  intro a hF
  refine st_val (fdB (.num 4 72)) hF rfl rfl (by decide) (fun w => by kernel_rfl) ?_
  clear hF
  intro a hF
  refine st_val (fdV (.num 4 72)) hF rfl rfl (by decide) (fun w => by kernel_rfl) ?_
  clear hF
  intro a hF
  refine st_slice (w0.heap.size + 7) W 79 _ 1 (#[fdV (.num 4 72)]) hF hb hB ht rfl rfl (by decide) (fun w => by kernel_rfl) ?_
  clear hF hb ht
  intro a w n6 hF hb hn6 ht
  refine st_val (cmdV [83, 116, 97, 116, 101] (.slice (some ⟨n6, 0, none⟩) 1 1)) hF rfl rfl (by decide) (fun w => by kernel_rfl) ?_
  clear hF
  intro a hF
  refine st_val (fdB (.num 1 73)) hF rfl rfl (by decide) (fun w => by kernel_rfl) ?_
  clear hF
  intro a hF
  refine st_val (fdV (.num 1 73)) hF rfl rfl (by decide) (fun w => by kernel_rfl) ?_
  clear hF
  intro a hF
  refine st_val (fdB (.num 3 74)) hF rfl rfl (by decide) (fun w => by kernel_rfl) ?_
  clear hF
  intro a hF
  refine st_val (fdV (.num 3 74)) hF rfl rfl (by decide) (fun w => by kernel_rfl) ?_
  clear hF
  intro a hF
  refine st_val (fdB (.dat 75)) hF rfl rfl (by decide) (fun w => by kernel_rfl) ?_
  clear hF
  intro a hF
  refine st_val (fdV (.dat 75)) hF rfl rfl (by decide) (fun w => by kernel_rfl) ?_
  clear hF
  intro a hF
  refine st_slice (w0.heap.size + 7) W 79 _ 3 (#[fdV (.num 1 73), fdV (.num 3 74), fdV (.dat 75)]) hF hb hB ht rfl rfl (by decide) (fun w => by kernel_rfl) ?_
  clear hF hb ht
  intro a w n7 hF hb hn7 ht
  refine st_val (cmdV [66, 105, 116, 115] (.slice (some ⟨n7, 0, none⟩) 3 3)) hF rfl rfl (by decide) (fun w => by kernel_rfl) ?_
  clear hF
  intro a hF
  refine st_load (fdB (.num 0 59)) hF rfl rfl (by decide) (load_two rfl rfl (h6.below hb).k1.1) ?_
  clear hF
  intro a hF
  refine st_val (fdV (.num 0 59)) hF rfl rfl (by decide) (fun w => by kernel_rfl) ?_
  clear hF
  intro a hF
  refine st_load (fdB (.num 1 60)) hF rfl rfl (by decide) (load_two rfl rfl (h6.below hb).k2.1) ?_
  clear hF
  intro a hF
  refine st_val (fdV (.num 1 60)) hF rfl rfl (by decide) (fun w => by kernel_rfl) ?_
  clear hF
  intro a hF
  refine st_load (fdB (.num 2 61)) hF rfl rfl (by decide) (load_two rfl rfl (h6.below hb).k3.1) ?_
  clear hF
  intro a hF
  refine st_val (fdV (.num 2 61)) hF rfl rfl (by decide) (fun w => by kernel_rfl) ?_
  clear hF
  intro a hF
  refine st_load (fdB (.dat 64)) hF rfl rfl (by decide) (load_one (.inr rfl) rfl rfl (h6.below hb).k6.1) ?_
  clear hF
  intro a hF
  refine st_val (fdV (.dat 64)) hF rfl rfl (by decide) (fun w => by kernel_rfl) ?_
  clear hF
  intro a hF
  refine st_slice (w0.heap.size + 7) W 79 _ 4 (#[fdV (.num 0 59), fdV (.num 1 60), fdV (.num 2 61), fdV (.dat 64)]) hF hb hB ht rfl rfl (by decide) (fun w => by kernel_rfl) ?_
  clear hF hb ht
  intro a w n8 hF hb hn8 ht
  refine st_val (cmdV [68, 97, 116, 97] (.slice (some ⟨n8, 0, none⟩) 4 4)) hF rfl rfl (by decide) (fun w => by kernel_rfl) ?_
  clear hF
  intro a hF
  refine st_load (fdB (.num 0 59)) hF rfl rfl (by decide) (load_two rfl rfl (h6.below hb).k1.1) ?_
  clear hF
  intro a hF
  refine st_val (fdV (.num 0 59)) hF rfl rfl (by decide) (fun w => by kernel_rfl) ?_
  clear hF
  intro a hF
  refine st_load (fdB (.num 1 60)) hF rfl rfl (by decide) (load_two rfl rfl (h6.below hb).k2.1) ?_
  clear hF
  intro a hF
  refine st_val (fdV (.num 1 60)) hF rfl rfl (by decide) (fun w => by kernel_rfl) ?_
  clear hF
  intro a hF
  refine st_load (fdB (.num 2 61)) hF rfl rfl (by decide) (load_two rfl rfl (h6.below hb).k3.1) ?_
  clear hF
  intro a hF
  refine st_val (fdV (.num 2 61)) hF rfl rfl (by decide) (fun w => by kernel_rfl) ?_
  clear hF
  intro a hF
  refine st_slice (w0.heap.size + 7) W 79 _ 3 (#[fdV (.num 0 59), fdV (.num 1 60), fdV (.num 2 61)]) hF hb hB ht rfl rfl (by decide) (fun w => by kernel_rfl) ?_
  clear hF hb ht
  intro a w n9 hF hb hn9 ht
  refine st_val (cmdV [90, 101, 114, 111] (.slice (some ⟨n9, 0, none⟩) 3 3)) hF rfl rfl (by decide) (fun w => by kernel_rfl) ?_
  clear hF
  intro a hF
  refine st_load (fdB (.num 0 59)) hF rfl rfl (by decide) (load_two rfl rfl (h6.below hb).k1.1) ?_
  clear hF
  intro a hF
  refine st_val (fdV (.num 0 59)) hF rfl rfl (by decide) (fun w => by kernel_rfl) ?_
  clear hF
  intro a hF
  refine st_load (fdB (.num 1 60)) hF rfl rfl (by decide) (load_two rfl rfl (h6.below hb).k2.1) ?_
  clear hF
  intro a hF
  refine st_val (fdV (.num 1 60)) hF rfl rfl (by decide) (fun w => by kernel_rfl) ?_
  clear hF
  intro a hF
  refine st_slice (w0.heap.size + 7) W 79 _ 2 (#[fdV (.num 0 59), fdV (.num 1 60)]) hF hb hB ht rfl rfl (by decide) (fun w => by kernel_rfl) ?_
  clear hF hb ht
  intro a w n10 hF hb hn10 ht
  refine st_val (cmdV [82, 101, 99, 118, 65, 99, 107] (.slice (some ⟨n10, 0, none⟩) 2 2)) hF rfl rfl (by decide) (fun w => by kernel_rfl) ?_
  clear hF
  intro a hF
  refine st_load (fdB (.num 0 59)) hF rfl rfl (by decide) (load_two rfl rfl (h6.below hb).k1.1) ?_
  clear hF
  intro a hF
  refine st_val (fdV (.num 0 59)) hF rfl rfl (by decide) (fun w => by kernel_rfl) ?_
  clear hF
  intro a hF
  refine st_load (fdB (.num 1 60)) hF rfl rfl (by decide) (load_two rfl rfl (h6.below hb).k2.1) ?_
  clear hF
  intro a hF
  refine st_val (fdV (.num 1 60)) hF rfl rfl (by decide) (fun w => by kernel_rfl) ?_
  clear hF
  intro a hF
  refine st_slice (w0.heap.size + 7) W 79 _ 2 (#[fdV (.num 0 59), fdV (.num 1 60)]) hF hb hB ht rfl rfl (by decide) (fun w => by kernel_rfl) ?_
  clear hF hb ht
  intro a w n11 hF hb hn11 ht
  refine st_val (cmdV [87, 114, 105, 116, 101, 65, 99, 107] (.slice (some ⟨n11, 0, none⟩) 2 2)) hF rfl rfl (by decide) (fun w => by kernel_rfl) ?_
  clear hF
  intro a hF
  refine st_load (fdB (.num 0 59)) hF rfl rfl (by decide) (load_two rfl rfl (h6.below hb).k1.1) ?_
  clear hF
  intro a hF
  refine st_val (fdV (.num 0 59)) hF rfl rfl (by decide) (fun w => by kernel_rfl) ?_
  clear hF
  intro a hF
  refine st_load (fdB (.num 1 60)) hF rfl rfl (by decide) (load_two rfl rfl (h6.below hb).k2.1) ?_
  clear hF
  intro a hF
  refine st_val (fdV (.num 1 60)) hF rfl rfl (by decide) (fun w => by kernel_rfl) ?_
  clear hF
  intro a hF
  refine st_val (fdB (.num 4 76)) hF rfl rfl (by decide) (fun w => by kernel_rfl) ?_
  clear hF
  intro a hF
  refine st_val (fdV (.num 4 76)) hF rfl rfl (by decide) (fun w => by kernel_rfl) ?_
  clear hF
  intro a hF
  refine st_slice (w0.heap.size + 7) W 79 _ 3 (#[fdV (.num 0 59), fdV (.num 1 60), fdV (.num 4 76)]) hF hb hB ht rfl rfl (by decide) (fun w => by kernel_rfl) ?_
  clear hF hb ht
  intro a w n12 hF hb hn12 ht
  refine st_val (cmdV [78, 101, 103, 65, 99, 107] (.slice (some ⟨n12, 0, none⟩) 3 3)) hF rfl rfl (by decide) (fun w => by kernel_rfl) ?_
  clear hF
  intro a hF
  refine st_load (fdB (.num 2 61)) hF rfl rfl (by decide) (load_two rfl rfl (h6.below hb).k3.1) ?_
  clear hF
  intro a hF
  refine st_val (fdV (.num 2 61)) hF rfl rfl (by decide) (fun w => by kernel_rfl) ?_
  clear hF
  intro a hF
  refine st_load (fdB (.num 3 62)) hF rfl rfl (by decide) (load_two rfl rfl (h6.below hb).k4.1) ?_
  clear hF
  intro a hF
  refine st_val (fdV (.num 3 62)) hF rfl rfl (by decide) (fun w => by kernel_rfl) ?_
  clear hF
  intro a hF
  refine st_slice (w0.heap.size + 7) W 79 _ 2 (#[fdV (.num 2 61), fdV (.num 3 62)]) hF hb hB ht rfl rfl (by decide) (fun w => by kernel_rfl) ?_
  clear hF hb ht
  intro a w n13 hF hb hn13 ht
  refine st_val (cmdV [66, 97, 114, 114, 105, 101, 114] (.slice (some ⟨n13, 0, none⟩) 2 2)) hF rfl rfl (by decide) (fun w => by kernel_rfl) ?_
  clear hF
  intro a hF
  refine st_load (fdB (.num 2 61)) hF rfl rfl (by decide) (load_two rfl rfl (h6.below hb).k3.1) ?_
  clear hF
  intro a hF
  refine st_val (fdV (.num 2 61)) hF rfl rfl (by decide) (fun w => by kernel_rfl) ?_
  clear hF
  intro a hF
  refine st_load (fdB (.num 3 62)) hF rfl rfl (by decide) (load_two rfl rfl (h6.below hb).k4.1) ?_
  clear hF
  intro a hF
  refine st_val (fdV (.num 3 62)) hF rfl rfl (by decide) (fun w => by kernel_rfl) ?_
  clear hF
  intro a hF
  refine st_slice (w0.heap.size + 7) W 79 _ 2 (#[fdV (.num 2 61), fdV (.num 3 62)]) hF hb hB ht rfl rfl (by decide) (fun w => by kernel_rfl) ?_
  clear hF hb ht
  intro a w n14 hF hb hn14 ht
  refine st_val (cmdV [66, 97, 114, 114, 105, 101, 114, 65, 99, 107] (.slice (some ⟨n14, 0, none⟩) 2 2)) hF rfl rfl (by decide) (fun w => by kernel_rfl) ?_
  clear hF
  intro a hF
  refine st_load (fdB (.num 0 59)) hF rfl rfl (by decide) (load_two rfl rfl (h6.below hb).k1.1) ?_
  clear hF
  intro a hF
  refine st_val (fdV (.num 0 59)) hF rfl rfl (by decide) (fun w => by kernel_rfl) ?_
  clear hF
  intro a hF
  refine st_load (fdB (.num 1 60)) hF rfl rfl (by decide) (load_two rfl rfl (h6.below hb).k2.1) ?_
  clear hF
  intro a hF
  refine st_val (fdV (.num 1 60)) hF rfl rfl (by decide) (fun w => by kernel_rfl) ?_
  clear hF
  intro a hF
  refine st_val (fdB (.num 4 77)) hF rfl rfl (by decide) (fun w => by kernel_rfl) ?_
  clear hF
  intro a hF
  refine st_val (fdV (.num 4 77)) hF rfl rfl (by decide) (fun w => by kernel_rfl) ?_
  clear hF
  intro a hF
  refine st_val (fdB (.sum 78)) hF rfl rfl (by decide) (fun w => by kernel_rfl) ?_
  clear hF
  intro a hF
  refine st_val (fdV (.sum 78)) hF rfl rfl (by decide) (fun w => by kernel_rfl) ?_
  clear hF
  intro a hF
  refine st_slice (w0.heap.size + 7) W 79 _ 4 (#[fdV (.num 0 59), fdV (.num 1 60), fdV (.num 4 77), fdV (.sum 78)]) hF hb hB ht rfl rfl (by decide) (fun w => by kernel_rfl) ?_
  clear hF hb ht
  intro a w n15 hF hb hn15 ht
  refine st_val (cmdV [83, 117, 109, 82, 101, 113, 117, 101, 115, 116] (.slice (some ⟨n15, 0, none⟩) 4 4)) hF rfl rfl (by decide) (fun w => by kernel_rfl) ?_
  clear hF
  intro a hF
  refine st_load (fdB (.num 0 59)) hF rfl rfl (by decide) (load_two rfl rfl (h6.below hb).k1.1) ?_
  clear hF
  intro a hF
  refine st_val (fdV (.num 0 59)) hF rfl rfl (by decide) (fun w => by kernel_rfl) ?_
  clear hF
  intro a hF
  refine st_load (fdB (.num 1 60)) hF rfl rfl (by decide) (load_two rfl rfl (h6.below hb).k2.1) ?_
  clear hF
  intro a hF
  refine st_val (fdV (.num 1 60)) hF rfl rfl (by decide) (fun w => by kernel_rfl) ?_
  clear hF
  intro a hF
  refine st_slice (w0.heap.size + 7) W 79 _ 2 (#[fdV (.num 0 59), fdV (.num 1 60)]) hF hb hB ht rfl rfl (by decide) (fun w => by kernel_rfl) ?_
  clear hF hb ht
  intro a w n16 hF hb hn16 ht
  refine st_val (cmdV [73, 110, 83, 121, 110, 99] (.slice (some ⟨n16, 0, none⟩) 2 2)) hF rfl rfl (by decide) (fun w => by kernel_rfl) ?_
  clear hF
  intro a hF
  refine st_load (fdB (.num 0 59)) hF rfl rfl (by decide) (load_two rfl rfl (h6.below hb).k1.1) ?_
  clear hF
  intro a hF
  refine st_val (fdV (.num 0 59)) hF rfl rfl (by decide) (fun w => by kernel_rfl) ?_
  clear hF
  intro a hF
  refine st_load (fdB (.num 1 60)) hF rfl rfl (by decide) (load_two rfl rfl (h6.below hb).k2.1) ?_
  clear hF
  intro a hF
  refine st_val (fdV (.num 1 60)) hF rfl rfl (by decide) (fun w => by kernel_rfl) ?_
  clear hF
  intro a hF
  refine st_load (fdB (.dat 64)) hF rfl rfl (by decide) (load_one (.inr rfl) rfl rfl (h6.below hb).k6.1) ?_
  clear hF
  intro a hF
  refine st_val (fdV (.dat 64)) hF rfl rfl (by decide) (fun w => by kernel_rfl) ?_
  clear hF
  intro a hF
  refine st_slice (w0.heap.size + 7) W 79 _ 3 (#[fdV (.num 0 59), fdV (.num 1 60), fdV (.dat 64)]) hF hb hB ht rfl rfl (by decide) (fun w => by kernel_rfl) ?_
  clear hF hb ht
  intro a w n17 hF hb hn17 ht
  refine st_val (cmdV [83, 121, 110, 99, 68, 97, 116, 97] (.slice (some ⟨n17, 0, none⟩) 3 3)) hF rfl rfl (by decide) (fun w => by kernel_rfl) ?_
  clear hF
  intro a hF
  refine st_load (fdB (.num 0 59)) hF rfl rfl (by decide) (load_two rfl rfl (h6.below hb).k1.1) ?_
  clear hF
  intro a hF
  refine st_val (fdV (.num 0 59)) hF rfl rfl (by decide) (fun w => by kernel_rfl) ?_
  clear hF
  intro a hF
  refine st_load (fdB (.num 1 60)) hF rfl rfl (by decide) (load_two rfl rfl (h6.below hb).k2.1) ?_
  clear hF
  intro a hF
  refine st_val (fdV (.num 1 60)) hF rfl rfl (by decide) (fun w => by kernel_rfl) ?_
  clear hF
  intro a hF
  refine st_slice (w0.heap.size + 7) W 79 _ 2 (#[fdV (.num 0 59), fdV (.num 1 60)]) hF hb hB ht rfl rfl (by decide) (fun w => by kernel_rfl) ?_
  clear hF hb ht
  intro a w n18 hF hb hn18 ht
  refine st_val (cmdV [83, 121, 110, 99, 65, 99, 107] (.slice (some ⟨n18, 0, none⟩) 2 2)) hF rfl rfl (by decide) (fun w => by kernel_rfl) ?_
  clear hF
  intro a hF
  refine st_val (fdB (.num 3 65)) hF rfl rfl (by decide) (fun w => by kernel_rfl) ?_
  clear hF
  intro a hF
  refine st_val (fdV (.num 3 65)) hF rfl rfl (by decide) (fun w => by kernel_rfl) ?_
  clear hF
  intro a hF
  refine st_slice (w0.heap.size + 7) W 79 _ 1 (#[fdV (.num 3 65)]) hF hb hB ht rfl rfl (by decide) (fun w => by kernel_rfl) ?_
  clear hF hb ht
  intro a w n19 hF hb hn19 ht
  refine st_val (cmdV [83, 121, 110, 99, 68, 111, 110, 101] (.slice (some ⟨n19, 0, none⟩) 1 1)) hF rfl rfl (by decide) (fun w => by kernel_rfl) ?_
  clear hF
  intro a hF
  refine st_load (fdB (.num 0 59)) hF rfl rfl (by decide) (load_two rfl rfl (h6.below hb).k1.1) ?_
  clear hF
  intro a hF
  refine st_val (fdV (.num 0 59)) hF rfl rfl (by decide) (fun w => by kernel_rfl) ?_
  clear hF
  intro a hF
  refine st_load (fdB (.num 1 60)) hF rfl rfl (by decide) (load_two rfl rfl (h6.below hb).k2.1) ?_
  clear hF
  intro a hF
  refine st_val (fdV (.num 1 60)) hF rfl rfl (by decide) (fun w => by kernel_rfl) ?_
  clear hF
  intro a hF
  refine st_load (fdB (.sum 63)) hF rfl rfl (by decide) (load_one (.inl rfl) rfl rfl (h6.below hb).k5.1) ?_
  clear hF
  intro a hF
  refine st_val (fdV (.sum 63)) hF rfl rfl (by decide) (fun w => by kernel_rfl) ?_
  clear hF
  intro a hF
  refine st_slice (w0.heap.size + 7) W 79 _ 3 (#[fdV (.num 0 59), fdV (.num 1 60), fdV (.sum 63)]) hF hb hB ht rfl rfl (by decide) (fun w => by kernel_rfl) ?_
  clear hF hb ht
  intro a w n20 hF hb hn20 ht
  refine st_val (cmdV [86, 101, 114, 105, 102, 121, 82, 101, 113, 117, 101, 115, 116] (.slice (some ⟨n20, 0, none⟩) 3 3)) hF rfl rfl (by decide) (fun w => by kernel_rfl) ?_
  clear hF
  intro a hF
  refine st_load (fdB (.num 0 59)) hF rfl rfl (by decide) (load_two rfl rfl (h6.below hb).k1.1) ?_
  clear hF
  intro a hF
  refine st_val (fdV (.num 0 59)) hF rfl rfl (by decide) (fun w => by kernel_rfl) ?_
  clear hF
  intro a hF
  refine st_load (fdB (.num 1 60)) hF rfl rfl (by decide) (load_two rfl rfl (h6.below hb).k2.1) ?_
  clear hF
  intro a hF
  refine st_val (fdV (.num 1 60)) hF rfl rfl (by decide) (fun w => by kernel_rfl) ?_
  clear hF
  intro a hF
  refine st_val (fdB (.num 4 77)) hF rfl rfl (by decide) (fun w => by kernel_rfl) ?_
  clear hF
  intro a hF
  refine st_val (fdV (.num 4 77)) hF rfl rfl (by decide) (fun w => by kernel_rfl) ?_
  clear hF
  intro a hF
  refine st_slice (w0.heap.size + 7) W 79 _ 3 (#[fdV (.num 0 59), fdV (.num 1 60), fdV (.num 4 77)]) hF hb hB ht rfl rfl (by decide) (fun w => by kernel_rfl) ?_
  clear hF hb ht
  intro a w n21 hF hb hn21 ht
  refine st_val (cmdV [86, 101, 114, 105, 102, 121, 82, 101, 112, 108, 121] (.slice (some ⟨n21, 0, none⟩) 3 3)) hF rfl rfl (by decide) (fun w => by kernel_rfl) ?_
  clear hF
  intro a hF
  refine st_val (fdB (.num 3 65)) hF rfl rfl (by decide) (fun w => by kernel_rfl) ?_
  clear hF
  intro a hF
  refine st_val (fdV (.num 3 65)) hF rfl rfl (by decide) (fun w => by kernel_rfl) ?_
  clear hF
  intro a hF
  refine st_slice (w0.heap.size + 7) W 79 _ 1 (#[fdV (.num 3 65)]) hF hb hB ht rfl rfl (by decide) (fun w => by kernel_rfl) ?_
  clear hF hb ht
  intro a w n22 hF hb hn22 ht
  refine st_val (cmdV [86, 101, 114, 105, 102, 121, 68, 111, 110, 101] (.slice (some ⟨n22, 0, none⟩) 1 1)) hF rfl rfl (by decide) (fun w => by kernel_rfl) ?_
  clear hF
  intro a hF
  refine st_val (fdB .gens) hF rfl rfl (by decide) (fun w => by kernel_rfl) ?_
  clear hF
  intro a hF
  refine st_val (fdV (.gens)) hF rfl rfl (by decide) (fun w => by kernel_rfl) ?_
  clear hF
  intro a hF
  refine st_slice (w0.heap.size + 7) W 79 _ 1 (#[fdV (.gens)]) hF hb hB ht rfl rfl (by decide) (fun w => by kernel_rfl) ?_
  clear hF hb ht
  intro a w n23 hF hb hn23 ht
  refine st_val (cmdV [71, 101, 110, 115] (.slice (some ⟨n23, 0, none⟩) 1 1)) hF rfl rfl (by decide) (fun w => by kernel_rfl) ?_
  clear hF
  intro a hF
  refine st_load (fdB (.num 0 59)) hF rfl rfl (by decide) (load_two rfl rfl (h6.below hb).k1.1) ?_
  clear hF
  intro a hF
  refine st_val (fdV (.num 0 59)) hF rfl rfl (by decide) (fun w => by kernel_rfl) ?_
  clear hF
  intro a hF
  refine st_load (fdB (.num 1 60)) hF rfl rfl (by decide) (load_two rfl rfl (h6.below hb).k2.1) ?_
  clear hF
  intro a hF
  refine st_val (fdV (.num 1 60)) hF rfl rfl (by decide) (fun w => by kernel_rfl) ?_
  clear hF
  intro a hF
  refine st_slice (w0.heap.size + 7) W 79 _ 2 (#[fdV (.num 0 59), fdV (.num 1 60)]) hF hb hB ht rfl rfl (by decide) (fun w => by kernel_rfl) ?_
  clear hF hb ht
  intro a w n24 hF hb hn24 ht
  refine st_val (cmdV [82, 101, 97, 100, 82, 101, 113, 117, 101, 115, 116] (.slice (some ⟨n24, 0, none⟩) 2 2)) hF rfl rfl (by decide) (fun w => by kernel_rfl) ?_
  clear hF
  intro a hF
  refine st_load (fdB (.num 0 59)) hF rfl rfl (by decide) (load_two rfl rfl (h6.below hb).k1.1) ?_
  clear hF
  intro a hF
  refine st_val (fdV (.num 0 59)) hF rfl rfl (by decide) (fun w => by kernel_rfl) ?_
  clear hF
  intro a hF
  refine st_load (fdB (.num 1 60)) hF rfl rfl (by decide) (load_two rfl rfl (h6.below hb).k2.1) ?_
  clear hF
  intro a hF
  refine st_val (fdV (.num 1 60)) hF rfl rfl (by decide) (fun w => by kernel_rfl) ?_
  clear hF
  intro a hF
  refine st_val (fdB (.num 4 79)) hF rfl rfl (by decide) (fun w => by kernel_rfl) ?_
  clear hF
  intro a hF
  refine st_val (fdV (.num 4 79)) hF rfl rfl (by decide) (fun w => by kernel_rfl) ?_
  clear hF
  intro a hF
  refine st_val (fdB (.dat 80)) hF rfl rfl (by decide) (fun w => by kernel_rfl) ?_
  clear hF
  intro a hF
  refine st_val (fdV (.dat 80)) hF rfl rfl (by decide) (fun w => by kernel_rfl) ?_
  clear hF
  intro a hF
  refine st_slice (w0.heap.size + 7) W 79 _ 4 (#[fdV (.num 0 59), fdV (.num 1 60), fdV (.num 4 79), fdV (.dat 80)]) hF hb hB ht rfl rfl (by decide) (fun w => by kernel_rfl) ?_
  clear hF hb ht
  intro a w n25 hF hb hn25 ht
  refine st_val (cmdV [82, 101, 97, 100, 82, 101, 112, 108, 121] (.slice (some ⟨n25, 0, none⟩) 4 4)) hF rfl rfl (by decide) (fun w => by kernel_rfl) ?_
  clear hF
  intro a hF
  refine st_val (.agg #[.string ⟨[].toArray⟩, .slice none 0 0, .string ⟨[70, 101, 97, 116, 117, 114, 101].toArray⟩, .slice (some ⟨n1, 0, none⟩) 3 3, .string ⟨[67, 104, 97, 108, 108, 101, 110, 103, 101].toArray⟩, .slice (some ⟨n2, 0, none⟩) 1 1, .string ⟨[82, 101, 115, 112, 111, 110, 115, 101].toArray⟩, .slice (some ⟨n3, 0, none⟩) 1 1, .string ⟨[83, 105, 122, 101, 115].toArray⟩, .slice (some ⟨n4, 0, none⟩) 3 3, .string ⟨[73, 100, 115].toArray⟩, .slice (some ⟨n5, 0, none⟩) 3 3, .string ⟨[83, 116, 97, 116, 101].toArray⟩, .slice (some ⟨n6, 0, none⟩) 1 1, .string ⟨[66, 105, 116, 115].toArray⟩, .slice (some ⟨n7, 0, none⟩) 3 3, .string ⟨[68, 97, 116, 97].toArray⟩, .slice (some ⟨n8, 0, none⟩) 4 4, .string ⟨[90, 101, 114, 111].toArray⟩, .slice (some ⟨n9, 0, none⟩) 3 3, .string ⟨[82, 101, 99, 118, 65, 99, 107].toArray⟩, .slice (some ⟨n10, 0, none⟩) 2 2, .string ⟨[87, 114, 105, 116, 101, 65, 99, 107].toArray⟩, .slice (some ⟨n11, 0, none⟩) 2 2, .string ⟨[78, 101, 103, 65, 99, 107].toArray⟩, .slice (some ⟨n12, 0, none⟩) 3 3, .string ⟨[66, 97, 114, 114, 105, 101, 114].toArray⟩, .slice (some ⟨n13, 0, none⟩) 2 2, .string ⟨[66, 97, 114, 114, 105, 101, 114, 65, 99, 107].toArray⟩, .slice (some ⟨n14, 0, none⟩) 2 2, .string ⟨[83, 117, 109, 82, 101, 113, 117, 101, 115, 116].toArray⟩, .slice (some ⟨n15, 0, none⟩) 4 4, .string ⟨[73, 110, 83, 121, 110, 99].toArray⟩, .slice (some ⟨n16, 0, none⟩) 2 2, .string ⟨[83, 121, 110, 99, 68, 97, 116, 97].toArray⟩, .slice (some ⟨n17, 0, none⟩) 3 3, .string ⟨[83, 121, 110, 99, 65, 99, 107].toArray⟩, .slice (some ⟨n18, 0, none⟩) 2 2, .string ⟨[83, 121, 110, 99, 68, 111, 110, 101].toArray⟩, .slice (some ⟨n19, 0, none⟩) 1 1, .string ⟨[86, 101, 114, 105, 102, 121, 82, 101, 113, 117, 101, 115, 116].toArray⟩, .slice (some ⟨n20, 0, none⟩) 3 3, .string ⟨[86, 101, 114, 105, 102, 121, 82, 101, 112, 108, 121].toArray⟩, .slice (some ⟨n21, 0, none⟩) 3 3, .string ⟨[86, 101, 114, 105, 102, 121, 68, 111, 110, 101].toArray⟩, .slice (some ⟨n22, 0, none⟩) 1 1, .string ⟨[71, 101, 110, 115].toArray⟩, .slice (some ⟨n23, 0, none⟩) 1 1, .string ⟨[82, 101, 97, 100, 82, 101, 113, 117, 101, 115, 116].toArray⟩, .slice (some ⟨n24, 0, none⟩) 2 2, .string ⟨[82, 101, 97, 100, 82, 101, 112, 108, 121].toArray⟩, .slice (some ⟨n25, 0, none⟩) 4 4]) hF rfl rfl (by decide) (fun w => by kernel_rfl) ?_
  clear hF
  intro a hF
  have hk : w.heap[w0.heap.size]? = some (.cells cmd0 75 (0, 0)) := (hb.block _ (by omega)).trans hk0
  have hp : a.tmps.getD 0 undef = .pointer (some ⟨w0.heap.size, 0, none⟩) := (hF.2.2 0).trans (by kernel_rfl)
  refine wpList_store_row rfl 75 (.tmp 0) (.tmp 182) rfl w0.heap.size #[.string ⟨[].toArray⟩, .slice none 0 0, .string ⟨[70, 101, 97, 116, 117, 114, 101].toArray⟩, .slice (some ⟨n1, 0, none⟩) 3 3, .string ⟨[67, 104, 97, 108, 108, 101, 110, 103, 101].toArray⟩, .slice (some ⟨n2, 0, none⟩) 1 1, .string ⟨[82, 101, 115, 112, 111, 110, 115, 101].toArray⟩, .slice (some ⟨n3, 0, none⟩) 1 1, .string ⟨[83, 105, 122, 101, 115].toArray⟩, .slice (some ⟨n4, 0, none⟩) 3 3, .string ⟨[73, 100, 115].toArray⟩, .slice (some ⟨n5, 0, none⟩) 3 3, .string ⟨[83, 116, 97, 116, 101].toArray⟩, .slice (some ⟨n6, 0, none⟩) 1 1, .string ⟨[66, 105, 116, 115].toArray⟩, .slice (some ⟨n7, 0, none⟩) 3 3, .string ⟨[68, 97, 116, 97].toArray⟩, .slice (some ⟨n8, 0, none⟩) 4 4, .string ⟨[90, 101, 114, 111].toArray⟩, .slice (some ⟨n9, 0, none⟩) 3 3, .string ⟨[82, 101, 99, 118, 65, 99, 107].toArray⟩, .slice (some ⟨n10, 0, none⟩) 2 2, .string ⟨[87, 114, 105, 116, 101, 65, 99, 107].toArray⟩, .slice (some ⟨n11, 0, none⟩) 2 2, .string ⟨[78, 101, 103, 65, 99, 107].toArray⟩, .slice (some ⟨n12, 0, none⟩) 3 3, .string ⟨[66, 97, 114, 114, 105, 101, 114].toArray⟩, .slice (some ⟨n13, 0, none⟩) 2 2, .string ⟨[66, 97, 114, 114, 105, 101, 114, 65, 99, 107].toArray⟩, .slice (some ⟨n14, 0, none⟩) 2 2, .string ⟨[83, 117, 109, 82, 101, 113, 117, 101, 115, 116].toArray⟩, .slice (some ⟨n15, 0, none⟩) 4 4, .string ⟨[73, 110, 83, 121, 110, 99].toArray⟩, .slice (some ⟨n16, 0, none⟩) 2 2, .string ⟨[83, 121, 110, 99, 68, 97, 116, 97].toArray⟩, .slice (some ⟨n17, 0, none⟩) 3 3, .string ⟨[83, 121, 110, 99, 65, 99, 107].toArray⟩, .slice (some ⟨n18, 0, none⟩) 2 2, .string ⟨[83, 121, 110, 99, 68, 111, 110, 101].toArray⟩, .slice (some ⟨n19, 0, none⟩) 1 1, .string ⟨[86, 101, 114, 105, 102, 121, 82, 101, 113, 117, 101, 115, 116].toArray⟩, .slice (some ⟨n20, 0, none⟩) 3 3, .string ⟨[86, 101, 114, 105, 102, 121, 82, 101, 112, 108, 121].toArray⟩, .slice (some ⟨n21, 0, none⟩) 3 3, .string ⟨[86, 101, 114, 105, 102, 121, 68, 111, 110, 101].toArray⟩, .slice (some ⟨n22, 0, none⟩) 1 1, .string ⟨[71, 101, 110, 115].toArray⟩, .slice (some ⟨n23, 0, none⟩) 1 1, .string ⟨[82, 101, 97, 100, 82, 101, 113, 117, 101, 115, 116].toArray⟩, .slice (some ⟨n24, 0, none⟩) 2 2, .string ⟨[82, 101, 97, 100, 82, 101, 112, 108, 121].toArray⟩, .slice (some ⟨n25, 0, none⟩) 4 4] ((congrFun hF.eval _).trans (by kernel_rfl)) ((congrFun hF.eval _).trans (by kernel_rfl)) _ _ hk (by kernel_rfl) (by kernel_rfl) (by kernel_rfl) ?_
  have hd : a.defers = [] := hF.1
  clear hF
  have hl := run_loadVar_row (P := Tryd.prog) (w.setRow w0.heap.size #[.string ⟨[].toArray⟩, .slice none 0 0, .string ⟨[70, 101, 97, 116, 117, 114, 101].toArray⟩, .slice (some ⟨n1, 0, none⟩) 3 3, .string ⟨[67, 104, 97, 108, 108, 101, 110, 103, 101].toArray⟩, .slice (some ⟨n2, 0, none⟩) 1 1, .string ⟨[82, 101, 115, 112, 111, 110, 115, 101].toArray⟩, .slice (some ⟨n3, 0, none⟩) 1 1, .string ⟨[83, 105, 122, 101, 115].toArray⟩, .slice (some ⟨n4, 0, none⟩) 3 3, .string ⟨[73, 100, 115].toArray⟩, .slice (some ⟨n5, 0, none⟩) 3 3, .string ⟨[83, 116, 97, 116, 101].toArray⟩, .slice (some ⟨n6, 0, none⟩) 1 1, .string ⟨[66, 105, 116, 115].toArray⟩, .slice (some ⟨n7, 0, none⟩) 3 3, .string ⟨[68, 97, 116, 97].toArray⟩, .slice (some ⟨n8, 0, none⟩) 4 4, .string ⟨[90, 101, 114, 111].toArray⟩, .slice (some ⟨n9, 0, none⟩) 3 3, .string ⟨[82, 101, 99, 118, 65, 99, 107].toArray⟩, .slice (some ⟨n10, 0, none⟩) 2 2, .string ⟨[87, 114, 105, 116, 101, 65, 99, 107].toArray⟩, .slice (some ⟨n11, 0, none⟩) 2 2, .string ⟨[78, 101, 103, 65, 99, 107].toArray⟩, .slice (some ⟨n12, 0, none⟩) 3 3, .string ⟨[66, 97, 114, 114, 105, 101, 114].toArray⟩, .slice (some ⟨n13, 0, none⟩) 2 2, .string ⟨[66, 97, 114, 114, 105, 101, 114, 65, 99, 107].toArray⟩, .slice (some ⟨n14, 0, none⟩) 2 2, .string ⟨[83, 117, 109, 82, 101, 113, 117, 101, 115, 116].toArray⟩, .slice (some ⟨n15, 0, none⟩) 4 4, .string ⟨[73, 110, 83, 121, 110, 99].toArray⟩, .slice (some ⟨n16, 0, none⟩) 2 2, .string ⟨[83, 121, 110, 99, 68, 97, 116, 97].toArray⟩, .slice (some ⟨n17, 0, none⟩) 3 3, .string ⟨[83, 121, 110, 99, 65, 99, 107].toArray⟩, .slice (some ⟨n18, 0, none⟩) 2 2, .string ⟨[83, 121, 110, 99, 68, 111, 110, 101].toArray⟩, .slice (some ⟨n19, 0, none⟩) 1 1, .string ⟨[86, 101, 114, 105, 102, 121, 82, 101, 113, 117, 101, 115, 116].toArray⟩, .slice (some ⟨n20, 0, none⟩) 3 3, .string ⟨[86, 101, 114, 105, 102, 121, 82, 101, 112, 108, 121].toArray⟩, .slice (some ⟨n21, 0, none⟩) 3 3, .string ⟨[86, 101, 114, 105, 102, 121, 68, 111, 110, 101].toArray⟩, .slice (some ⟨n22, 0, none⟩) 1 1, .string ⟨[71, 101, 110, 115].toArray⟩, .slice (some ⟨n23, 0, none⟩) 1 1, .string ⟨[82, 101, 97, 100, 82, 101, 113, 117, 101, 115, 116].toArray⟩, .slice (some ⟨n24, 0, none⟩) 2 2, .string ⟨[82, 101, 97, 100, 82, 101, 112, 108, 121].toArray⟩, .slice (some ⟨n25, 0, none⟩) 4 4]) w0.heap.size 75 75 #[.string ⟨[].toArray⟩, .slice none 0 0, .string ⟨[70, 101, 97, 116, 117, 114, 101].toArray⟩, .slice (some ⟨n1, 0, none⟩) 3 3, .string ⟨[67, 104, 97, 108, 108, 101, 110, 103, 101].toArray⟩, .slice (some ⟨n2, 0, none⟩) 1 1, .string ⟨[82, 101, 115, 112, 111, 110, 115, 101].toArray⟩, .slice (some ⟨n3, 0, none⟩) 1 1, .string ⟨[83, 105, 122, 101, 115].toArray⟩, .slice (some ⟨n4, 0, none⟩) 3 3, .string ⟨[73, 100, 115].toArray⟩, .slice (some ⟨n5, 0, none⟩) 3 3, .string ⟨[83, 116, 97, 116, 101].toArray⟩, .slice (some ⟨n6, 0, none⟩) 1 1, .string ⟨[66, 105, 116, 115].toArray⟩, .slice (some ⟨n7, 0, none⟩) 3 3, .string ⟨[68, 97, 116, 97].toArray⟩, .slice (some ⟨n8, 0, none⟩) 4 4, .string ⟨[90, 101, 114, 111].toArray⟩, .slice (some ⟨n9, 0, none⟩) 3 3, .string ⟨[82, 101, 99, 118, 65, 99, 107].toArray⟩, .slice (some ⟨n10, 0, none⟩) 2 2, .string ⟨[87, 114, 105, 116, 101, 65, 99, 107].toArray⟩, .slice (some ⟨n11, 0, none⟩) 2 2, .string ⟨[78, 101, 103, 65, 99, 107].toArray⟩, .slice (some ⟨n12, 0, none⟩) 3 3, .string ⟨[66, 97, 114, 114, 105, 101, 114].toArray⟩, .slice (some ⟨n13, 0, none⟩) 2 2, .string ⟨[66, 97, 114, 114, 105, 101, 114, 65, 99, 107].toArray⟩, .slice (some ⟨n14, 0, none⟩) 2 2, .string ⟨[83, 117, 109, 82, 101, 113, 117, 101, 115, 116].toArray⟩, .slice (some ⟨n15, 0, none⟩) 4 4, .string ⟨[73, 110, 83, 121, 110, 99].toArray⟩, .slice (some ⟨n16, 0, none⟩) 2 2, .string ⟨[83, 121, 110, 99, 68, 97, 116, 97].toArray⟩, .slice (some ⟨n17, 0, none⟩) 3 3, .string ⟨[83, 121, 110, 99, 65, 99, 107].toArray⟩, .slice (some ⟨n18, 0, none⟩) 2 2, .string ⟨[83, 121, 110, 99, 68, 111, 110, 101].toArray⟩, .slice (some ⟨n19, 0, none⟩) 1 1, .string ⟨[86, 101, 114, 105, 102, 121, 82, 101, 113, 117, 101, 115, 116].toArray⟩, .slice (some ⟨n20, 0, none⟩) 3 3, .string ⟨[86, 101, 114, 105, 102, 121, 82, 101, 112, 108, 121].toArray⟩, .slice (some ⟨n21, 0, none⟩) 3 3, .string ⟨[86, 101, 114, 105, 102, 121, 68, 111, 110, 101].toArray⟩, .slice (some ⟨n22, 0, none⟩) 1 1, .string ⟨[71, 101, 110, 115].toArray⟩, .slice (some ⟨n23, 0, none⟩) 1 1, .string ⟨[82, 101, 97, 100, 82, 101, 113, 117, 101, 115, 116].toArray⟩, .slice (some ⟨n24, 0, none⟩) 2 2, .string ⟨[82, 101, 97, 100, 82, 101, 112, 108, 121].toArray⟩, .slice (some ⟨n25, 0, none⟩) 4 4] (0, 0) (.array 26 74) (setRow_heap _ _ _ _ _ _ hk) (by kernel_rfl) rfl (by kernel_rfl)
  refine wpList_nil ?_
  refine hnext _ _ ?_
  refine wp_ret ?_
  refine bodyPost_ret (v := .agg #[.string ⟨[].toArray⟩, .slice none 0 0, .string ⟨[70, 101, 97, 116, 117, 114, 101].toArray⟩, .slice (some ⟨n1, 0, none⟩) 3 3, .string ⟨[67, 104, 97, 108, 108, 101, 110, 103, 101].toArray⟩, .slice (some ⟨n2, 0, none⟩) 1 1, .string ⟨[82, 101, 115, 112, 111, 110, 115, 101].toArray⟩, .slice (some ⟨n3, 0, none⟩) 1 1, .string ⟨[83, 105, 122, 101, 115].toArray⟩, .slice (some ⟨n4, 0, none⟩) 3 3, .string ⟨[73, 100, 115].toArray⟩, .slice (some ⟨n5, 0, none⟩) 3 3, .string ⟨[83, 116, 97, 116, 101].toArray⟩, .slice (some ⟨n6, 0, none⟩) 1 1, .string ⟨[66, 105, 116, 115].toArray⟩, .slice (some ⟨n7, 0, none⟩) 3 3, .string ⟨[68, 97, 116, 97].toArray⟩, .slice (some ⟨n8, 0, none⟩) 4 4, .string ⟨[90, 101, 114, 111].toArray⟩, .slice (some ⟨n9, 0, none⟩) 3 3, .string ⟨[82, 101, 99, 118, 65, 99, 107].toArray⟩, .slice (some ⟨n10, 0, none⟩) 2 2, .string ⟨[87, 114, 105, 116, 101, 65, 99, 107].toArray⟩, .slice (some ⟨n11, 0, none⟩) 2 2, .string ⟨[78, 101, 103, 65, 99, 107].toArray⟩, .slice (some ⟨n12, 0, none⟩) 3 3, .string ⟨[66, 97, 114, 114, 105, 101, 114].toArray⟩, .slice (some ⟨n13, 0, none⟩) 2 2, .string ⟨[66, 97, 114, 114, 105, 101, 114, 65, 99, 107].toArray⟩, .slice (some ⟨n14, 0, none⟩) 2 2, .string ⟨[83, 117, 109, 82, 101, 113, 117, 101, 115, 116].toArray⟩, .slice (some ⟨n15, 0, none⟩) 4 4, .string ⟨[73, 110, 83, 121, 110, 99].toArray⟩, .slice (some ⟨n16, 0, none⟩) 2 2, .string ⟨[83, 121, 110, 99, 68, 97, 116, 97].toArray⟩, .slice (some ⟨n17, 0, none⟩) 3 3, .string ⟨[83, 121, 110, 99, 65, 99, 107].toArray⟩, .slice (some ⟨n18, 0, none⟩) 2 2, .string ⟨[83, 121, 110, 99, 68, 111, 110, 101].toArray⟩, .slice (some ⟨n19, 0, none⟩) 1 1, .string ⟨[86, 101, 114, 105, 102, 121, 82, 101, 113, 117, 101, 115, 116].toArray⟩, .slice (some ⟨n20, 0, none⟩) 3 3, .string ⟨[86, 101, 114, 105, 102, 121, 82, 101, 112, 108, 121].toArray⟩, .slice (some ⟨n21, 0, none⟩) 3 3, .string ⟨[86, 101, 114, 105, 102, 121, 68, 111, 110, 101].toArray⟩, .slice (some ⟨n22, 0, none⟩) 1 1, .string ⟨[71, 101, 110, 115].toArray⟩, .slice (some ⟨n23, 0, none⟩) 1 1, .string ⟨[82, 101, 97, 100, 82, 101, 113, 117, 101, 115, 116].toArray⟩, .slice (some ⟨n24, 0, none⟩) 2 2, .string ⟨[82, 101, 97, 100, 82, 101, 112, 108, 121].toArray⟩, .slice (some ⟨n25, 0, none⟩) 4 4]) ?_ hd ?_
  · exact results_cell rfl hp hl
  · have hge : ∀ p ∈ [(n1, #[fdV (.num 0 65), fdV (.num 3 66), fdV (.num 4 65)]), (n2, #[fdV (.dat 67)]), (n3, #[fdV (.sum 63)]), (n4, #[fdV (.num 1 68), fdV (.num 3 69), fdV (.num 4 65)]), (n5, #[fdV (.num 3 70), fdV (.num 4 71), fdV (.gens)]), (n6, #[fdV (.num 4 72)]), (n7, #[fdV (.num 1 73), fdV (.num 3 74), fdV (.dat 75)]), (n8, #[fdV (.num 0 59), fdV (.num 1 60), fdV (.num 2 61), fdV (.dat 64)]), (n9, #[fdV (.num 0 59), fdV (.num 1 60), fdV (.num 2 61)]), (n10, #[fdV (.num 0 59), fdV (.num 1 60)]), (n11, #[fdV (.num 0 59), fdV (.num 1 60)]), (n12, #[fdV (.num 0 59), fdV (.num 1 60), fdV (.num 4 76)]), (n13, #[fdV (.num 2 61), fdV (.num 3 62)]), (n14, #[fdV (.num 2 61), fdV (.num 3 62)]), (n15, #[fdV (.num 0 59), fdV (.num 1 60), fdV (.num 4 77), fdV (.sum 78)]), (n16, #[fdV (.num 0 59), fdV (.num 1 60)]), (n17, #[fdV (.num 0 59), fdV (.num 1 60), fdV (.dat 64)]), (n18, #[fdV (.num 0 59), fdV (.num 1 60)]), (n19, #[fdV (.num 3 65)]), (n20, #[fdV (.num 0 59), fdV (.num 1 60), fdV (.sum 63)]), (n21, #[fdV (.num 0 59), fdV (.num 1 60), fdV (.num 4 77)]), (n22, #[fdV (.num 3 65)]), (n23, #[fdV (.gens)]), (n24, #[fdV (.num 0 59), fdV (.num 1 60)]), (n25, #[fdV (.num 0 59), fdV (.num 1 60), fdV (.num 4 79), fdV (.dat 80)])], w0.heap.size + 7 ≤ p.1 := List.forall_mem_cons.2 ⟨hn1, List.forall_mem_cons.2 ⟨hn2, List.forall_mem_cons.2 ⟨hn3, List.forall_mem_cons.2 ⟨hn4, List.forall_mem_cons.2 ⟨hn5, List.forall_mem_cons.2 ⟨hn6, List.forall_mem_cons.2 ⟨hn7, List.forall_mem_cons.2 ⟨hn8, List.forall_mem_cons.2 ⟨hn9, List.forall_mem_cons.2 ⟨hn10, List.forall_mem_cons.2 ⟨hn11, List.forall_mem_cons.2 ⟨hn12, List.forall_mem_cons.2 ⟨hn13, List.forall_mem_cons.2 ⟨hn14, List.forall_mem_cons.2 ⟨hn15, List.forall_mem_cons.2 ⟨hn16, List.forall_mem_cons.2 ⟨hn17, List.forall_mem_cons.2 ⟨hn18, List.forall_mem_cons.2 ⟨hn19, List.forall_mem_cons.2 ⟨hn20, List.forall_mem_cons.2 ⟨hn21, List.forall_mem_cons.2 ⟨hn22, List.forall_mem_cons.2 ⟨hn23, List.forall_mem_cons.2 ⟨hn24, List.forall_mem_cons.2 ⟨hn25, fun p hp => nomatch hp⟩⟩⟩⟩⟩⟩⟩⟩⟩⟩⟩⟩⟩⟩⟩⟩⟩⟩⟩⟩⟩⟩⟩⟩⟩
    have hT : ∀ p ∈ [(n1, #[fdV (.num 0 65), fdV (.num 3 66), fdV (.num 4 65)]), (n2, #[fdV (.dat 67)]), (n3, #[fdV (.sum 63)]), (n4, #[fdV (.num 1 68), fdV (.num 3 69), fdV (.num 4 65)]), (n5, #[fdV (.num 3 70), fdV (.num 4 71), fdV (.gens)]), (n6, #[fdV (.num 4 72)]), (n7, #[fdV (.num 1 73), fdV (.num 3 74), fdV (.dat 75)]), (n8, #[fdV (.num 0 59), fdV (.num 1 60), fdV (.num 2 61), fdV (.dat 64)]), (n9, #[fdV (.num 0 59), fdV (.num 1 60), fdV (.num 2 61)]), (n10, #[fdV (.num 0 59), fdV (.num 1 60)]), (n11, #[fdV (.num 0 59), fdV (.num 1 60)]), (n12, #[fdV (.num 0 59), fdV (.num 1 60), fdV (.num 4 76)]), (n13, #[fdV (.num 2 61), fdV (.num 3 62)]), (n14, #[fdV (.num 2 61), fdV (.num 3 62)]), (n15, #[fdV (.num 0 59), fdV (.num 1 60), fdV (.num 4 77), fdV (.sum 78)]), (n16, #[fdV (.num 0 59), fdV (.num 1 60)]), (n17, #[fdV (.num 0 59), fdV (.num 1 60), fdV (.dat 64)]), (n18, #[fdV (.num 0 59), fdV (.num 1 60)]), (n19, #[fdV (.num 3 65)]), (n20, #[fdV (.num 0 59), fdV (.num 1 60), fdV (.sum 63)]), (n21, #[fdV (.num 0 59), fdV (.num 1 60), fdV (.num 4 77)]), (n22, #[fdV (.num 3 65)]), (n23, #[fdV (.gens)]), (n24, #[fdV (.num 0 59), fdV (.num 1 60)]), (n25, #[fdV (.num 0 59), fdV (.num 1 60), fdV (.num 4 79), fdV (.dat 80)])], (w.setRow w0.heap.size #[.string ⟨[].toArray⟩, .slice none 0 0, .string ⟨[70, 101, 97, 116, 117, 114, 101].toArray⟩, .slice (some ⟨n1, 0, none⟩) 3 3, .string ⟨[67, 104, 97, 108, 108, 101, 110, 103, 101].toArray⟩, .slice (some ⟨n2, 0, none⟩) 1 1, .string ⟨[82, 101, 115, 112, 111, 110, 115, 101].toArray⟩, .slice (some ⟨n3, 0, none⟩) 1 1, .string ⟨[83, 105, 122, 101, 115].toArray⟩, .slice (some ⟨n4, 0, none⟩) 3 3, .string ⟨[73, 100, 115].toArray⟩, .slice (some ⟨n5, 0, none⟩) 3 3, .string ⟨[83, 116, 97, 116, 101].toArray⟩, .slice (some ⟨n6, 0, none⟩) 1 1, .string ⟨[66, 105, 116, 115].toArray⟩, .slice (some ⟨n7, 0, none⟩) 3 3, .string ⟨[68, 97, 116, 97].toArray⟩, .slice (some ⟨n8, 0, none⟩) 4 4, .string ⟨[90, 101, 114, 111].toArray⟩, .slice (some ⟨n9, 0, none⟩) 3 3, .string ⟨[82, 101, 99, 118, 65, 99, 107].toArray⟩, .slice (some ⟨n10, 0, none⟩) 2 2, .string ⟨[87, 114, 105, 116, 101, 65, 99, 107].toArray⟩, .slice (some ⟨n11, 0, none⟩) 2 2, .string ⟨[78, 101, 103, 65, 99, 107].toArray⟩, .slice (some ⟨n12, 0, none⟩) 3 3, .string ⟨[66, 97, 114, 114, 105, 101, 114].toArray⟩, .slice (some ⟨n13, 0, none⟩) 2 2, .string ⟨[66, 97, 114, 114, 105, 101, 114, 65, 99, 107].toArray⟩, .slice (some ⟨n14, 0, none⟩) 2 2, .string ⟨[83, 117, 109, 82, 101, 113, 117, 101, 115, 116].toArray⟩, .slice (some ⟨n15, 0, none⟩) 4 4, .string ⟨[73, 110, 83, 121, 110, 99].toArray⟩, .slice (some ⟨n16, 0, none⟩) 2 2, .string ⟨[83, 121, 110, 99, 68, 97, 116, 97].toArray⟩, .slice (some ⟨n17, 0, none⟩) 3 3, .string ⟨[83, 121, 110, 99, 65, 99, 107].toArray⟩, .slice (some ⟨n18, 0, none⟩) 2 2, .string ⟨[83, 121, 110, 99, 68, 111, 110, 101].toArray⟩, .slice (some ⟨n19, 0, none⟩) 1 1, .string ⟨[86, 101, 114, 105, 102, 121, 82, 101, 113, 117, 101, 115, 116].toArray⟩, .slice (some ⟨n20, 0, none⟩) 3 3, .string ⟨[86, 101, 114, 105, 102, 121, 82, 101, 112, 108, 121].toArray⟩, .slice (some ⟨n21, 0, none⟩) 3 3, .string ⟨[86, 101, 114, 105, 102, 121, 68, 111, 110, 101].toArray⟩, .slice (some ⟨n22, 0, none⟩) 1 1, .string ⟨[71, 101, 110, 115].toArray⟩, .slice (some ⟨n23, 0, none⟩) 1 1, .string ⟨[82, 101, 97, 100, 82, 101, 113, 117, 101, 115, 116].toArray⟩, .slice (some ⟨n24, 0, none⟩) 2 2, .string ⟨[82, 101, 97, 100, 82, 101, 112, 108, 121].toArray⟩, .slice (some ⟨n25, 0, none⟩) 4 4]).heap[p.1]? = some (.cells p.2 79 (0, 0)) := fun p hp => by
      have h1 := hge p hp
      rw [setRow_other _ _ _ _ (by omega)]
      exact ht p (List.mem_reverse.2 hp)
    clear ht hl
    refine ⟨fun k => [0, n1, n2, n3, n4, n5, n6, n7, n8, n9, n10, n11, n12, n13, n14, n15, n16, n17, n18, n19, n20, n21, n22, n23, n24, n25].getD k 0, by kernel_rfl, ?_, below_setRow (hb7.trans (hb.mono (by omega))) (Nat.le_refl _) _⟩
    intro i c hi hc
    have hi26 : i < 26 := (List.getElem?_eq_some_iff.1 hc).1
    match i, hi, hi26, hc with
    | 1, _, _, hc => cases (show some ([70, 101, 97, 116, 117, 114, 101], [.num 0 65, .num 3 66, .num 4 65]) = some c from hc); exact ⟨hT (n1, #[fdV (.num 0 65), fdV (.num 3 66), fdV (.num 4 65)]) (List.mem_of_getElem? (i := 0) rfl), Nat.le_trans (Nat.le_add_right _ 7) hn1⟩
    | 2, _, _, hc => cases (show some ([67, 104, 97, 108, 108, 101, 110, 103, 101], [.dat 67]) = some c from hc); exact ⟨hT (n2, #[fdV (.dat 67)]) (List.mem_of_getElem? (i := 1) rfl), Nat.le_trans (Nat.le_add_right _ 7) hn2⟩
    | 3, _, _, hc => cases (show some ([82, 101, 115, 112, 111, 110, 115, 101], [.sum 63]) = some c from hc); exact ⟨hT (n3, #[fdV (.sum 63)]) (List.mem_of_getElem? (i := 2) rfl), Nat.le_trans (Nat.le_add_right _ 7) hn3⟩
    | 4, _, _, hc => cases (show some ([83, 105, 122, 101, 115], [.num 1 68, .num 3 69, .num 4 65]) = some c from hc); exact ⟨hT (n4, #[fdV (.num 1 68), fdV (.num 3 69), fdV (.num 4 65)]) (List.mem_of_getElem? (i := 3) rfl), Nat.le_trans (Nat.le_add_right _ 7) hn4⟩
    | 5, _, _, hc => cases (show some ([73, 100, 115], [.num 3 70, .num 4 71, .gens]) = some c from hc); exact ⟨hT (n5, #[fdV (.num 3 70), fdV (.num 4 71), fdV (.gens)]) (List.mem_of_getElem? (i := 4) rfl), Nat.le_trans (Nat.le_add_right _ 7) hn5⟩
    | 6, _, _, hc => cases (show some ([83, 116, 97, 116, 101], [.num 4 72]) = some c from hc); exact ⟨hT (n6, #[fdV (.num 4 72)]) (List.mem_of_getElem? (i := 5) rfl), Nat.le_trans (Nat.le_add_right _ 7) hn6⟩
    | 7, _, _, hc => cases (show some ([66, 105, 116, 115], [.num 1 73, .num 3 74, .dat 75]) = some c from hc); exact ⟨hT (n7, #[fdV (.num 1 73), fdV (.num 3 74), fdV (.dat 75)]) (List.mem_of_getElem? (i := 6) rfl), Nat.le_trans (Nat.le_add_right _ 7) hn7⟩
    | 8, _, _, hc => cases (show some ([68, 97, 116, 97], [.num 0 59, .num 1 60, .num 2 61, .dat 64]) = some c from hc); exact ⟨hT (n8, #[fdV (.num 0 59), fdV (.num 1 60), fdV (.num 2 61), fdV (.dat 64)]) (List.mem_of_getElem? (i := 7) rfl), Nat.le_trans (Nat.le_add_right _ 7) hn8⟩
    | 9, _, _, hc => cases (show some ([90, 101, 114, 111], [.num 0 59, .num 1 60, .num 2 61]) = some c from hc); exact ⟨hT (n9, #[fdV (.num 0 59), fdV (.num 1 60), fdV (.num 2 61)]) (List.mem_of_getElem? (i := 8) rfl), Nat.le_trans (Nat.le_add_right _ 7) hn9⟩
    | 10, _, _, hc => cases (show some ([82, 101, 99, 118, 65, 99, 107], [.num 0 59, .num 1 60]) = some c from hc); exact ⟨hT (n10, #[fdV (.num 0 59), fdV (.num 1 60)]) (List.mem_of_getElem? (i := 9) rfl), Nat.le_trans (Nat.le_add_right _ 7) hn10⟩
    | 11, _, _, hc => cases (show some ([87, 114, 105, 116, 101, 65, 99, 107], [.num 0 59, .num 1 60]) = some c from hc); exact ⟨hT (n11, #[fdV (.num 0 59), fdV (.num 1 60)]) (List.mem_of_getElem? (i := 10) rfl), Nat.le_trans (Nat.le_add_right _ 7) hn11⟩
    | 12, _, _, hc => cases (show some ([78, 101, 103, 65, 99, 107], [.num 0 59, .num 1 60, .num 4 76]) = some c from hc); exact ⟨hT (n12, #[fdV (.num 0 59), fdV (.num 1 60), fdV (.num 4 76)]) (List.mem_of_getElem? (i := 11) rfl), Nat.le_trans (Nat.le_add_right _ 7) hn12⟩
    | 13, _, _, hc => cases (show some ([66, 97, 114, 114, 105, 101, 114], [.num 2 61, .num 3 62]) = some c from hc); exact ⟨hT (n13, #[fdV (.num 2 61), fdV (.num 3 62)]) (List.mem_of_getElem? (i := 12) rfl), Nat.le_trans (Nat.le_add_right _ 7) hn13⟩
    | 14, _, _, hc => cases (show some ([66, 97, 114, 114, 105, 101, 114, 65, 99, 107], [.num 2 61, .num 3 62]) = some c from hc); exact ⟨hT (n14, #[fdV (.num 2 61), fdV (.num 3 62)]) (List.mem_of_getElem? (i := 13) rfl), Nat.le_trans (Nat.le_add_right _ 7) hn14⟩
    | 15, _, _, hc => cases (show some ([83, 117, 109, 82, 101, 113, 117, 101, 115, 116], [.num 0 59, .num 1 60, .num 4 77, .sum 78]) = some c from hc); exact ⟨hT (n15, #[fdV (.num 0 59), fdV (.num 1 60), fdV (.num 4 77), fdV (.sum 78)]) (List.mem_of_getElem? (i := 14) rfl), Nat.le_trans (Nat.le_add_right _ 7) hn15⟩
    | 16, _, _, hc => cases (show some ([73, 110, 83, 121, 110, 99], [.num 0 59, .num 1 60]) = some c from hc); exact ⟨hT (n16, #[fdV (.num 0 59), fdV (.num 1 60)]) (List.mem_of_getElem? (i := 15) rfl), Nat.le_trans (Nat.le_add_right _ 7) hn16⟩
    | 17, _, _, hc => cases (show some ([83, 121, 110, 99, 68, 97, 116, 97], [.num 0 59, .num 1 60, .dat 64]) = some c from hc); exact ⟨hT (n17, #[fdV (.num 0 59), fdV (.num 1 60), fdV (.dat 64)]) (List.mem_of_getElem? (i := 16) rfl), Nat.le_trans (Nat.le_add_right _ 7) hn17⟩
    | 18, _, _, hc => cases (show some ([83, 121, 110, 99, 65, 99, 107], [.num 0 59, .num 1 60]) = some c from hc); exact ⟨hT (n18, #[fdV (.num 0 59), fdV (.num 1 60)]) (List.mem_of_getElem? (i := 17) rfl), Nat.le_trans (Nat.le_add_right _ 7) hn18⟩
    | 19, _, _, hc => cases (show some ([83, 121, 110, 99, 68, 111, 110, 101], [.num 3 65]) = some c from hc); exact ⟨hT (n19, #[fdV (.num 3 65)]) (List.mem_of_getElem? (i := 18) rfl), Nat.le_trans (Nat.le_add_right _ 7) hn19⟩
    | 20, _, _, hc => cases (show some ([86, 101, 114, 105, 102, 121, 82, 101, 113, 117, 101, 115, 116], [.num 0 59, .num 1 60, .sum 63]) = some c from hc); exact ⟨hT (n20, #[fdV (.num 0 59), fdV (.num 1 60), fdV (.sum 63)]) (List.mem_of_getElem? (i := 19) rfl), Nat.le_trans (Nat.le_add_right _ 7) hn20⟩
    | 21, _, _, hc => cases (show some ([86, 101, 114, 105, 102, 121, 82, 101, 112, 108, 121], [.num 0 59, .num 1 60, .num 4 77]) = some c from hc); exact ⟨hT (n21, #[fdV (.num 0 59), fdV (.num 1 60), fdV (.num 4 77)]) (List.mem_of_getElem? (i := 20) rfl), Nat.le_trans (Nat.le_add_right _ 7) hn21⟩
    | 22, _, _, hc => cases (show some ([86, 101, 114, 105, 102, 121, 68, 111, 110, 101], [.num 3 65]) = some c from hc); exact ⟨hT (n22, #[fdV (.num 3 65)]) (List.mem_of_getElem? (i := 21) rfl), Nat.le_trans (Nat.le_add_right _ 7) hn22⟩
    | 23, _, _, hc => cases (show some ([71, 101, 110, 115], [.gens]) = some c from hc); exact ⟨hT (n23, #[fdV (.gens)]) (List.mem_of_getElem? (i := 22) rfl), Nat.le_trans (Nat.le_add_right _ 7) hn23⟩
    | 24, _, _, hc => cases (show some ([82, 101, 97, 100, 82, 101, 113, 117, 101, 115, 116], [.num 0 59, .num 1 60]) = some c from hc); exact ⟨hT (n24, #[fdV (.num 0 59), fdV (.num 1 60)]) (List.mem_of_getElem? (i := 23) rfl), Nat.le_trans (Nat.le_add_right _ 7) hn24⟩
    | 25, _, _, hc => cases (show some ([82, 101, 97, 100, 82, 101, 112, 108, 121], [.num 0 59, .num 1 60, .num 4 79, .dat 80]) = some c from hc); exact ⟨hT (n25, #[fdV (.num 0 59), fdV (.num 1 60), fdV (.num 4 79), fdV (.dat 80)]) (List.mem_of_getElem? (i := 24) rfl), Nat.le_trans (Nat.le_add_right _ 7) hn25⟩

end Go.Proofs.YtbgfoobcpacfeaaDoor
