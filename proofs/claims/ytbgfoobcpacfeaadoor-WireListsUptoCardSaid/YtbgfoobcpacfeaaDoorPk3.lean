/- Walks and plain laws of the packets and frames, joined from: WCmd, WCmd2, WPk, WLaid, By, WMem, Rw, WMay. -/
import Derived.Test.YtbgfoobcpacfeaaDoorPk2
import Derived.Deep.DeepCutAuto
import Derived.Laws.CopyOwn
import Derived.Test.YtbgfoobcpacfeaaDoorCards
import Derived.Test.YtbgfoobcpacfeaaDoorTie
import Derived.LaidMore
import Derived.SevenTiedAt
import Derived.Maps.AppendAt
import Derived.Laws.OwnMore
import Derived.WalkSpells
import Derived.Lib.LazyBuf
/- The table of commands: each command's name, and its fields in memory. (Printed by wip/w7gen/mkcmd.py.) -/
namespace Go.Proofs.YtbgfoobcpacfeaaDoor
open Go.RowKit
set_option maxRecDepth 100000
set_option linter.unusedVariables false
set_option linter.unusedSimpArgs false

@[go_sem] theorem run_store_func {P : Program} {w : World} {a : Addr} {m : Mode} (f : Fn) (x y : Array Value) : (store a (.func f x y) m).run P w = stored P w a (.func f x y) m := run_store P w a _ m rfl

/-- A field of a packet: a number at a place; the identifiers; a digest; the data. -/
inductive Fd where
  | num (place : Int) (may : FuncId)
  | gens
  | sum (only : FuncId)
  | dat (may : FuncId)
abbrev fnV (f : FuncId) : Value := .func (.func f) #[] #[]
theorem results_cell {P : Program} {fn : Func} {s : Nat} {T : TypeId} {tmps : Array Value} {ad : Addr} {w : World} {v : Value} (hf : fn.results = #[.cell s T]) (hp : tmps.getD s undef = .pointer (some ad)) (hl : (loadVar T ad).run P w = .ok v w) :
    (results fn tmps).run P w = .ok v w := by
  unfold results
  rw [hf]
  rw [Array.getD_eq_getD_getElem?] at hp
  simp [asAddr, hp, hl]
def Fd.t : Fd → TypeId
  | .num _ _ => 107
  | .gens => 117
  | .sum _ => 113
  | .dat _ => 115
/-- The field as a struct. -/
def fdB : Fd → Value
  | .num p f => .agg #[.int .i64 p, fnV f]
  | .gens => .agg #[]
  | .sum f => .agg #[fnV f]
  | .dat f => .agg #[fnV f]
/-- The field as a value of the interface. -/
def fdV (x : Fd) : Value := .iface x.t (fdB x)
def cmdV (s : List UInt8) (v : Value) : Value := .agg #[.string ⟨s.toArray⟩, v]

/-- The table: by command, the name and the fields. -/
def cmdTab : List (List UInt8 × List Fd) := [
  ([], []),
  ([70, 101, 97, 116, 117, 114, 101], [.num 0 65, .num 3 66, .num 4 65]),
  ([67, 104, 97, 108, 108, 101, 110, 103, 101], [.dat 67]),
  ([82, 101, 115, 112, 111, 110, 115, 101], [.sum 63]),
  ([83, 105, 122, 101, 115], [.num 1 68, .num 3 69, .num 4 65]),
  ([73, 100, 115], [.num 3 70, .num 4 71, .gens]),
  ([83, 116, 97, 116, 101], [.num 4 72]),
  ([66, 105, 116, 115], [.num 1 73, .num 3 74, .dat 75]),
  ([68, 97, 116, 97], [.num 0 59, .num 1 60, .num 2 61, .dat 64]),
  ([90, 101, 114, 111], [.num 0 59, .num 1 60, .num 2 61]),
  ([82, 101, 99, 118, 65, 99, 107], [.num 0 59, .num 1 60]),
  ([87, 114, 105, 116, 101, 65, 99, 107], [.num 0 59, .num 1 60]),
  ([78, 101, 103, 65, 99, 107], [.num 0 59, .num 1 60, .num 4 76]),
  ([66, 97, 114, 114, 105, 101, 114], [.num 2 61, .num 3 62]),
  ([66, 97, 114, 114, 105, 101, 114, 65, 99, 107], [.num 2 61, .num 3 62]),
  ([83, 117, 109, 82, 101, 113, 117, 101, 115, 116], [.num 0 59, .num 1 60, .num 4 77, .sum 78]),
  ([73, 110, 83, 121, 110, 99], [.num 0 59, .num 1 60]),
  ([83, 121, 110, 99, 68, 97, 116, 97], [.num 0 59, .num 1 60, .dat 64]),
  ([83, 121, 110, 99, 65, 99, 107], [.num 0 59, .num 1 60]),
  ([83, 121, 110, 99, 68, 111, 110, 101], [.num 3 65]),
  ([86, 101, 114, 105, 102, 121, 82, 101, 113, 117, 101, 115, 116], [.num 0 59, .num 1 60, .sum 63]),
  ([86, 101, 114, 105, 102, 121, 82, 101, 112, 108, 121], [.num 0 59, .num 1 60, .num 4 77]),
  ([86, 101, 114, 105, 102, 121, 68, 111, 110, 101], [.num 3 65]),
  ([71, 101, 110, 115], [.gens]),
  ([82, 101, 97, 100, 82, 101, 113, 117, 101, 115, 116], [.num 0 59, .num 1 60]),
  ([82, 101, 97, 100, 82, 101, 112, 108, 121], [.num 0 59, .num 1 60, .num 4 79, .dat 80])]


/-- The frame is φ. -/
def Fr (n : Nat) (a : Act) (φ : Nat → Value) : Prop := a.defers = [] ∧ a.tmps.size = n ∧ ∀ t, a.tmps.getD t undef = φ t
def upd (φ : Nat → Value) (d : Nat) (v : Value) : Nat → Value := fun t => if t = d then v else φ t
def ev (φ : Nat → Value) : Operand → Value
  | .tmp t => φ t
  | .const v => v
  | .global g => .pointer (some ⟨g, 0, none⟩)
  | .func f => .func (.func f) #[] #[]
theorem Fr.eval {n : Nat} {a : Act} {φ : Nat → Value} (h : Fr n a φ) : a.eval = ev φ := by
  funext x
  cases x with
  | tmp t => exact h.2.2 t
  | const v => rfl
  | global g => rfl
  | func f => rfl
theorem Fr.put {n : Nat} {a : Act} {φ : Nat → Value} (h : Fr n a φ) (d : Nat) (v : Value) (hd : d < n) : Fr n (a.put (some d) v) (upd φ d v) := by
  obtain ⟨h1, h2, h3⟩ := h
  refine ⟨h1, by simpa [Act.put] using h2, fun t => ?_⟩
  have := h3 t
  simp only [Act.put, upd, Array.getD_eq_getD_getElem?] at this ⊢
  by_cases e : t = d
  · subst e
    simp [Array.getElem?_setIfInBounds, h2, hd]
  · rw [if_neg e, Array.getElem?_setIfInBounds_ne (Ne.symm e)]
    exact this

section
variable {P : Program} {ops : Array Oper} {rest : List Oper} {o : Oper} {a : Act} {Q : Exit → Act → World → Prop} {n : Nat} {φ : Nat → Value} {w : World}
theorem fr_start {l : List Oper} {t : Array Value} (hn : t.size = n) (h : ∀ a, Fr n a (fun k => t.getD k undef) → wpList P ops Q l a w) : wpList P ops Q l ⟨t, []⟩ w := h _ ⟨rfl, hn, fun _ => rfl⟩
/-- An operation that only computes. -/
theorem st_val {d : Nat} (v : Value) (hF : Fr n a φ) (hg : o.guard = none) (hd : o.dst = some d) (hn : d < n) (hr : ∀ w, (execOp (ev φ) o).run P w = .ok (.value v) w) (k : ∀ a', Fr n a' (upd φ d v) → wpList P ops Q rest a' w) : wpList P ops Q (o :: rest) a w := by
  refine wpList_plain hg fun K hK => ?_
  unfold Oper.wp
  rw [hF.eval, hr w]
  show K (a.put o.dst v) w
  rw [hd]
  exact hK _ _ (k _ (hF.put d v hn))
/-- An operation that reads. -/
theorem st_load {d : Nat} (v : Value) (hF : Fr n a φ) (hg : o.guard = none) (hd : o.dst = some d) (hn : d < n) (hr : (execOp (ev φ) o).run P w = .ok (.value v) w) (k : ∀ a', Fr n a' (upd φ d v) → wpList P ops Q rest a' w) : wpList P ops Q (o :: rest) a w := by
  refine wpList_plain hg fun K hK => ?_
  unfold Oper.wp
  rw [hF.eval, hr]
  show K (a.put o.dst v) w
  rw [hd]
  exact hK _ _ (k _ (hF.put d v hn))
/-- Blocks that lie so. -/
def Has (T : TypeId) (tbl : List (Nat × Array Value)) (w : World) : Prop := ∀ p ∈ tbl, w.heap[p.1]? = some (.cells p.2 T (0, 0))
theorem Has.nil_ (T : TypeId) (w : World) : Has T [] w := fun p h => by cases h
theorem Has.below {T : TypeId} {tbl : List (Nat × Array Value)} {w' : World} (h : Has T tbl w) (hb : Below w.heap.size w w') : Has T tbl w' := fun p hp => blk_below (h p hp) hb
/-- A slice laid out. -/
theorem st_slice {d : Nat} (B : Nat) (W : World) (T : TypeId) (tbl : List (Nat × Array Value)) (m : Nat) (cs : Array Value) (hF : Fr n a φ) (hb : Below B W w) (hB : B ≤ W.heap.size) (ht : Has T tbl w) (hg : o.guard = none) (hd : o.dst = some d) (hn : d < n)
    (hr : ∀ w, (execOp (ev φ) o).run P w = .ok (.value (.slice (some ⟨w.heap.size, 0, none⟩) m m)) (w.alloc (.cells cs T)))
    (k : ∀ a' w' b, Fr n a' (upd φ d (.slice (some ⟨b, 0, none⟩) m m)) → Below B W w' → B ≤ b → Has T ((b, cs) :: tbl) w' → wpList P ops Q rest a' w') : wpList P ops Q (o :: rest) a w := by
  refine wpList_plain hg fun K hK => ?_
  unfold Oper.wp
  rw [hF.eval, hr w]
  show K (a.put o.dst _) (w.alloc _)
  rw [hd]
  have hs := Nat.le_trans hB hb.size
  refine hK _ _ (k _ _ _ (hF.put d _ hn) (hb.alloc hs _) hs ?_)
  intro p hp
  rcases List.mem_cons.1 hp with rfl | hp
  · exact heap_new _ _ _ rfl
  · exact blk_below (ht p hp) (below_alloc1 w _)
end

/-- What the boxes of the six fields hold. -/
structure Six (B : Nat) (w : World) (b1 b2 b3 b4 b5 b6 : Nat) : Prop where
  k1 : w.heap[b1]? = some (.cells #[.int .i64 0, fnV 59] 107 (0, 0)) ∧ b1 < B
  k2 : w.heap[b2]? = some (.cells #[.int .i64 1, fnV 60] 107 (0, 0)) ∧ b2 < B
  k3 : w.heap[b3]? = some (.cells #[.int .i64 2, fnV 61] 107 (0, 0)) ∧ b3 < B
  k4 : w.heap[b4]? = some (.cells #[.int .i64 3, fnV 62] 107 (0, 0)) ∧ b4 < B
  k5 : w.heap[b5]? = some (.cells #[fnV 63] 113 (0, 0)) ∧ b5 < B
  k6 : w.heap[b6]? = some (.cells #[fnV 64] 115 (0, 0)) ∧ b6 < B

theorem Six.below {B : Nat} {w w' : World} {b1 b2 b3 b4 b5 b6 : Nat} (h : Six B w b1 b2 b3 b4 b5 b6) (hb : Below B w w') : Six B w' b1 b2 b3 b4 b5 b6 :=
  ⟨⟨(hb.block _ h.k1.2).trans h.k1.1, h.k1.2⟩, ⟨(hb.block _ h.k2.2).trans h.k2.1, h.k2.2⟩, ⟨(hb.block _ h.k3.2).trans h.k3.1, h.k3.2⟩, ⟨(hb.block _ h.k4.2).trans h.k4.1, h.k4.2⟩, ⟨(hb.block _ h.k5.2).trans h.k5.1, h.k5.2⟩, ⟨(hb.block _ h.k6.2).trans h.k6.1, h.k6.2⟩⟩
theorem load_two {w : World} {φ : Nat → Value} {s b : Nat} {o : Oper} {x y : Value} (ho : o.op = .load 107 (.tmp s)) (hs : φ s = .pointer (some ⟨b, 0, none⟩)) (hk : w.heap[b]? = some (.cells #[x, y] 107 (0, 0))) :
    (execOp (ev φ) o).run Tryd.prog w = .ok (.value (.agg #[x, y])) w := by
  have hc := has_cell hk
  unfold execOp
  rw [ho]
  show Sem.run _ (do pure (Next.value (← Instr.loadAt _ (φ s)))) w = _
  rw [hs]
  go_simp
theorem load_one {w : World} {φ : Nat → Value} {s b : Nat} {o : Oper} {T : TypeId} {x : Value} (hT : T = 113 ∨ T = 115) (ho : o.op = .load T (.tmp s)) (hs : φ s = .pointer (some ⟨b, 0, none⟩)) (hk : w.heap[b]? = some (.cells #[x] T (0, 0))) :
    (execOp (ev φ) o).run Tryd.prog w = .ok (.value (.agg #[x])) w := by
  have hc := has_cell hk
  unfold execOp
  rw [ho]
  show Sem.run _ (do pure (Next.value (← Instr.loadAt _ (φ s)))) w = _
  rw [hs]
  rcases hT with rfl | rfl
  · go_simp
  · go_simp

/-- The answer: the names and where the fields lie. -/
def cmdCells (n : Nat → Nat) : List Value := [.string ⟨[].toArray⟩, .slice none 0 0, .string ⟨[70, 101, 97, 116, 117, 114, 101].toArray⟩, .slice (some ⟨n 1, 0, none⟩) 3 3, .string ⟨[67, 104, 97, 108, 108, 101, 110, 103, 101].toArray⟩, .slice (some ⟨n 2, 0, none⟩) 1 1, .string ⟨[82, 101, 115, 112, 111, 110, 115, 101].toArray⟩, .slice (some ⟨n 3, 0, none⟩) 1 1, .string ⟨[83, 105, 122, 101, 115].toArray⟩, .slice (some ⟨n 4, 0, none⟩) 3 3, .string ⟨[73, 100, 115].toArray⟩, .slice (some ⟨n 5, 0, none⟩) 3 3, .string ⟨[83, 116, 97, 116, 101].toArray⟩, .slice (some ⟨n 6, 0, none⟩) 1 1, .string ⟨[66, 105, 116, 115].toArray⟩, .slice (some ⟨n 7, 0, none⟩) 3 3, .string ⟨[68, 97, 116, 97].toArray⟩, .slice (some ⟨n 8, 0, none⟩) 4 4, .string ⟨[90, 101, 114, 111].toArray⟩, .slice (some ⟨n 9, 0, none⟩) 3 3, .string ⟨[82, 101, 99, 118, 65, 99, 107].toArray⟩, .slice (some ⟨n 10, 0, none⟩) 2 2, .string ⟨[87, 114, 105, 116, 101, 65, 99, 107].toArray⟩, .slice (some ⟨n 11, 0, none⟩) 2 2, .string ⟨[78, 101, 103, 65, 99, 107].toArray⟩, .slice (some ⟨n 12, 0, none⟩) 3 3, .string ⟨[66, 97, 114, 114, 105, 101, 114].toArray⟩, .slice (some ⟨n 13, 0, none⟩) 2 2, .string ⟨[66, 97, 114, 114, 105, 101, 114, 65, 99, 107].toArray⟩, .slice (some ⟨n 14, 0, none⟩) 2 2, .string ⟨[83, 117, 109, 82, 101, 113, 117, 101, 115, 116].toArray⟩, .slice (some ⟨n 15, 0, none⟩) 4 4, .string ⟨[73, 110, 83, 121, 110, 99].toArray⟩, .slice (some ⟨n 16, 0, none⟩) 2 2, .string ⟨[83, 121, 110, 99, 68, 97, 116, 97].toArray⟩, .slice (some ⟨n 17, 0, none⟩) 3 3, .string ⟨[83, 121, 110, 99, 65, 99, 107].toArray⟩, .slice (some ⟨n 18, 0, none⟩) 2 2, .string ⟨[83, 121, 110, 99, 68, 111, 110, 101].toArray⟩, .slice (some ⟨n 19, 0, none⟩) 1 1, .string ⟨[86, 101, 114, 105, 102, 121, 82, 101, 113, 117, 101, 115, 116].toArray⟩, .slice (some ⟨n 20, 0, none⟩) 3 3, .string ⟨[86, 101, 114, 105, 102, 121, 82, 101, 112, 108, 121].toArray⟩, .slice (some ⟨n 21, 0, none⟩) 3 3, .string ⟨[86, 101, 114, 105, 102, 121, 68, 111, 110, 101].toArray⟩, .slice (some ⟨n 22, 0, none⟩) 1 1, .string ⟨[71, 101, 110, 115].toArray⟩, .slice (some ⟨n 23, 0, none⟩) 1 1, .string ⟨[82, 101, 97, 100, 82, 101, 113, 117, 101, 115, 116].toArray⟩, .slice (some ⟨n 24, 0, none⟩) 2 2, .string ⟨[82, 101, 97, 100, 82, 101, 112, 108, 121].toArray⟩, .slice (some ⟨n 25, 0, none⟩) 4 4]

/-- The command's fields lie so. -/
def CmdsAt (B : Nat) (n : Nat → Nat) (w : World) : Prop := ∀ i c, 1 ≤ i → cmdTab[i]? = some c → w.heap[n i]? = some (.cells (c.2.map fdV).toArray 79 (0, 0)) ∧ B ≤ n i
theorem CmdsAt.below {B : Nat} {n : Nat → Nat} {w w' : World} (h : CmdsAt B n w) (hb : Below w.heap.size w w') : CmdsAt B n w' := fun i c hi hc => ⟨blk_below (h i c hi hc).1 hb, (h i c hi hc).2⟩

abbrev cmd0 : Array Value := #[.string ⟨#[]⟩, .slice none 0 0, .string ⟨#[]⟩, .slice none 0 0, .string ⟨#[]⟩, .slice none 0 0, .string ⟨#[]⟩, .slice none 0 0, .string ⟨#[]⟩, .slice none 0 0, .string ⟨#[]⟩, .slice none 0 0, .string ⟨#[]⟩, .slice none 0 0, .string ⟨#[]⟩, .slice none 0 0, .string ⟨#[]⟩, .slice none 0 0, .string ⟨#[]⟩, .slice none 0 0, .string ⟨#[]⟩, .slice none 0 0, .string ⟨#[]⟩, .slice none 0 0, .string ⟨#[]⟩, .slice none 0 0, .string ⟨#[]⟩, .slice none 0 0, .string ⟨#[]⟩, .slice none 0 0, .string ⟨#[]⟩, .slice none 0 0, .string ⟨#[]⟩, .slice none 0 0, .string ⟨#[]⟩, .slice none 0 0, .string ⟨#[]⟩, .slice none 0 0, .string ⟨#[]⟩, .slice none 0 0, .string ⟨#[]⟩, .slice none 0 0, .string ⟨#[]⟩, .slice none 0 0, .string ⟨#[]⟩, .slice none 0 0, .string ⟨#[]⟩, .slice none 0 0, .string ⟨#[]⟩, .slice none 0 0, .string ⟨#[]⟩, .slice none 0 0]

set_option maxHeartbeats 40000000 in
theorem commands_calls (w0 : World) : Calls Tryd.prog 40 #[] w0 fun e w' => ∃ n, e = .returned (.agg (cmdCells n).toArray) ∧ CmdsAt w0.heap.size n w' ∧ Below w0.heap.size w0 w' := by
  go_enter Tryd.func40, Tryd.ntmps40
  go_upto_region 7 with fail
  rename_i hnext
  have h6 : Six (w0.heap.size + 7) (((((((w0.alloc (.cells cmd0 75)).alloc (.cells #[.int .i64 0, fnV 59] 107)).alloc (.cells #[.int .i64 1, fnV 60] 107)).alloc (.cells #[.int .i64 2, fnV 61] 107)).alloc (.cells #[.int .i64 3, fnV 62] 107)).alloc (.cells #[fnV 63] 113)).alloc (.cells #[fnV 64] 115))
      (w0.heap.size + 1) (w0.heap.size + 1 + 1) (w0.heap.size + 1 + 1 + 1) (w0.heap.size + 1 + 1 + 1 + 1) (w0.heap.size + 1 + 1 + 1 + 1 + 1) (w0.heap.size + 1 + 1 + 1 + 1 + 1 + 1) := by
    refine ⟨⟨?_, by omega⟩, ⟨?_, by omega⟩, ⟨?_, by omega⟩, ⟨?_, by omega⟩, ⟨?_, by omega⟩, ⟨?_, by omega⟩⟩
    all_goals repeat (first | exact heap_new _ _ _ (by simp) | refine (heap_old _ _ _ (by first | (simp; done) | (simp; omega))).trans ?_)
  have hk0 : (((((((w0.alloc (.cells cmd0 75)).alloc (.cells #[.int .i64 0, fnV 59] 107)).alloc (.cells #[.int .i64 1, fnV 60] 107)).alloc (.cells #[.int .i64 2, fnV 61] 107)).alloc (.cells #[.int .i64 3, fnV 62] 107)).alloc (.cells #[fnV 63] 113)).alloc (.cells #[fnV 64] 115)).heap[w0.heap.size]? = some (.cells cmd0 75 (0, 0)) := by
    repeat (first | exact heap_new _ _ _ (by simp) | refine (heap_old _ _ _ (by first | (simp; done) | (simp; omega))).trans ?_)
  have hsz : (((((((w0.alloc (.cells cmd0 75)).alloc (.cells #[.int .i64 0, fnV 59] 107)).alloc (.cells #[.int .i64 1, fnV 60] 107)).alloc (.cells #[.int .i64 2, fnV 61] 107)).alloc (.cells #[.int .i64 3, fnV 62] 107)).alloc (.cells #[fnV 63] 113)).alloc (.cells #[fnV 64] 115)).heap.size = w0.heap.size + 7 := by simp
  have hb7 : Below w0.heap.size w0 (((((((w0.alloc (.cells cmd0 75)).alloc (.cells #[.int .i64 0, fnV 59] 107)).alloc (.cells #[.int .i64 1, fnV 60] 107)).alloc (.cells #[.int .i64 2, fnV 61] 107)).alloc (.cells #[.int .i64 3, fnV 62] 107)).alloc (.cells #[fnV 63] 113)).alloc (.cells #[fnV 64] 115)) := by
    repeat (first | exact Below.refl _ _ | refine Below.alloc ?_ (by simp; try omega) _)
  have hW := Lib.hid (show True from trivial)
  generalize ((((((w0.alloc (.cells cmd0 75)).alloc (.cells #[.int .i64 0, fnV 59] 107)).alloc (.cells #[.int .i64 1, fnV 60] 107)).alloc (.cells #[.int .i64 2, fnV 61] 107)).alloc (.cells #[.int .i64 3, fnV 62] 107)).alloc (.cells #[fnV 63] 113)).alloc (.cells #[fnV 64] 115) = W at *
  refine wp_region_lit ?_
  refine fr_start (n := 183) rfl ?_
  intro a hF
  have hB : w0.heap.size + 7 ≤ W.heap.size := by omega
  have hb := Below.refl (w0.heap.size + 7) W
  obtain ⟨w, hw⟩ : ∃ w, w = W := ⟨_, rfl⟩
  rw [← hw]
  rw [show Below (w0.heap.size + 7) W W ↔ Below (w0.heap.size + 7) W w by rw [hw]] at hb
  have ht := Has.nil_ 79 w
  clear hw hW
  refine st_val (cmdV [] (.slice none 0 0)) hF rfl rfl (by decide) (fun w => by kernel_rfl) ?_
  clear hF
  intro a hF
  refine st_val (fdB (.num 0 65)) hF rfl rfl (by decide) (fun w => by kernel_rfl) ?_
  clear hF
  intro a hF
  refine st_val (fdV (.num 0 65)) hF rfl rfl (by decide) (fun w => by kernel_rfl) ?_
  clear hF
  intro a hF
  refine st_val (fdB (.num 3 66)) hF rfl rfl (by decide) (fun w => by kernel_rfl) ?_
  clear hF
  intro a hF
  refine st_val (fdV (.num 3 66)) hF rfl rfl (by decide) (fun w => by kernel_rfl) ?_
  clear hF
  intro a hF
  refine st_val (fdB (.num 4 65)) hF rfl rfl (by decide) (fun w => by kernel_rfl) ?_
  clear hF
  intro a hF
  refine st_val (fdV (.num 4 65)) hF rfl rfl (by decide) (fun w => by kernel_rfl) ?_
  clear hF
  intro a hF
  refine st_slice (w0.heap.size + 7) W 79 _ 3 (#[fdV (.num 0 65), fdV (.num 3 66), fdV (.num 4 65)]) hF hb hB ht rfl rfl (by decide) (fun w => by kernel_rfl) ?_
  clear hF hb ht
  intro a w n1 hF hb hn1 ht
  refine st_val (cmdV [70, 101, 97, 116, 117, 114, 101] (.slice (some ⟨n1, 0, none⟩) 3 3)) hF rfl rfl (by decide) (fun w => by kernel_rfl) ?_
  clear hF
  intro a hF
  refine st_val (fdB (.dat 67)) hF rfl rfl (by decide) (fun w => by kernel_rfl) ?_
  clear hF
  intro a hF
  refine st_val (fdV (.dat 67)) hF rfl rfl (by decide) (fun w => by kernel_rfl) ?_
  clear hF
  intro a hF
  refine st_slice (w0.heap.size + 7) W 79 _ 1 (#[fdV (.dat 67)]) hF hb hB ht rfl rfl (by decide) (fun w => by kernel_rfl) ?_
  clear hF hb ht
  intro a w n2 hF hb hn2 ht
  refine st_val (cmdV [67, 104, 97, 108, 108, 101, 110, 103, 101] (.slice (some ⟨n2, 0, none⟩) 1 1)) hF rfl rfl (by decide) (fun w => by kernel_rfl) ?_
  clear hF
  intro a hF
  refine st_load (fdB (.sum 63)) hF rfl rfl (by decide) (load_one (.inl rfl) rfl rfl (h6.below hb).k5.1) ?_
  clear hF
  intro a hF
  refine st_val (fdV (.sum 63)) hF rfl rfl (by decide) (fun w => by kernel_rfl) ?_
  clear hF
  intro a hF
  refine st_slice (w0.heap.size + 7) W 79 _ 1 (#[fdV (.sum 63)]) hF hb hB ht rfl rfl (by decide) (fun w => by kernel_rfl) ?_
  clear hF hb ht
  intro a w n3 hF hb hn3 ht
  refine st_val (cmdV [82, 101, 115, 112, 111, 110, 115, 101] (.slice (some ⟨n3, 0, none⟩) 1 1)) hF rfl rfl (by decide) (fun w => by kernel_rfl) ?_
  clear hF
  intro a hF
  refine st_val (fdB (.num 1 68)) hF rfl rfl (by decide) (fun w => by kernel_rfl) ?_
  clear hF
  intro a hF
  refine st_val (fdV (.num 1 68)) hF rfl rfl (by decide) (fun w => by kernel_rfl) ?_
  clear hF
  intro a hF
  refine st_val (fdB (.num 3 69)) hF rfl rfl (by decide) (fun w => by kernel_rfl) ?_
  clear hF
  intro a hF
  refine st_val (fdV (.num 3 69)) hF rfl rfl (by decide) (fun w => by kernel_rfl) ?_
  clear hF
  intro a hF
  refine st_val (fdB (.num 4 65)) hF rfl rfl (by decide) (fun w => by kernel_rfl) ?_
  clear hF
  intro a hF
  refine st_val (fdV (.num 4 65)) hF rfl rfl (by decide) (fun w => by kernel_rfl) ?_
  clear hF
  intro a hF
  refine st_slice (w0.heap.size + 7) W 79 _ 3 (#[fdV (.num 1 68), fdV (.num 3 69), fdV (.num 4 65)]) hF hb hB ht rfl rfl (by decide) (fun w => by kernel_rfl) ?_
  clear hF hb ht
  intro a w n4 hF hb hn4 ht
  refine st_val (cmdV [83, 105, 122, 101, 115] (.slice (some ⟨n4, 0, none⟩) 3 3)) hF rfl rfl (by decide) (fun w => by kernel_rfl) ?_
  clear hF
  intro a hF
  refine st_val (fdB (.num 3 70)) hF rfl rfl (by decide) (fun w => by kernel_rfl) ?_
  clear hF
  intro a hF
  refine st_val (fdV (.num 3 70)) hF rfl rfl (by decide) (fun w => by kernel_rfl) ?_
  clear hF
  intro a hF
  refine st_val (fdB (.num 4 71)) hF rfl rfl (by decide) (fun w => by kernel_rfl) ?_
  clear hF
  intro a hF
  refine st_val (fdV (.num 4 71)) hF rfl rfl (by decide) (fun w => by kernel_rfl) ?_
  clear hF
  intro a hF
  refine st_val (fdB .gens) hF rfl rfl (by decide) (fun w => by kernel_rfl) ?_
  clear hF
  intro a hF
  refine st_val (fdV (.gens)) hF rfl rfl (by decide) (fun w => by kernel_rfl) ?_
  clear hF
  intro a hF
  refine st_slice (w0.heap.size + 7) W 79 _ 3 (#[fdV (.num 3 70), fdV (.num 4 71), fdV (.gens)]) hF hb hB ht rfl rfl (by decide) (fun w => by kernel_rfl) ?_
  clear hF hb ht
  intro a w n5 hF hb hn5 ht
  refine st_val (cmdV [73, 100, 115] (.slice (some ⟨n5, 0, none⟩) 3 3)) hF rfl rfl (by decide) (fun w => by kernel_rfl) ?_
  clear hF
  intro a hF
  refine st_val (fdB (.num 4 72)) hF rfl rfl (by decide) (fun w => by kernel_rfl) ?_
  clear hF
  intro a hF
  refine st_val (fdV (.num 4 72)) hF rfl rfl (by decide) (fun w => by kernel_rfl) ?_
  clear hF
  intro a hF
  refine st_slice (w0.heap.size + 7) W 79 _ 1 (#[fdV (.num 4 72)]) hF hb hB ht rfl rfl (by decide) (fun w => by kernel_rfl) ?_
  clear hF hb ht
  intro a w n6 hF hb hn6 ht
  refine st_val (cmdV [83, 116, 97, 116, 101] (.slice (some ⟨n6, 0, none⟩) 1 1)) hF rfl rfl (by decide) (fun w => by kernel_rfl) ?_
  clear hF
  intro a hF
  refine st_val (fdB (.num 1 73)) hF rfl rfl (by decide) (fun w => by kernel_rfl) ?_
  clear hF
  intro a hF
  refine st_val (fdV (.num 1 73)) hF rfl rfl (by decide) (fun w => by kernel_rfl) ?_
  clear hF
  intro a hF
  refine st_val (fdB (.num 3 74)) hF rfl rfl (by decide) (fun w => by kernel_rfl) ?_
  clear hF
  intro a hF
  refine st_val (fdV (.num 3 74)) hF rfl rfl (by decide) (fun w => by kernel_rfl) ?_
  clear hF
  intro a hF
  refine st_val (fdB (.dat 75)) hF rfl rfl (by decide) (fun w => by kernel_rfl) ?_
  clear hF
  intro a hF
  refine st_val (fdV (.dat 75)) hF rfl rfl (by decide) (fun w => by kernel_rfl) ?_
  clear hF
  intro a hF
  refine st_slice (w0.heap.size + 7) W 79 _ 3 (#[fdV (.num 1 73), fdV (.num 3 74), fdV (.dat 75)]) hF hb hB ht rfl rfl (by decide) (fun w => by kernel_rfl) ?_
  clear hF hb ht
  intro a w n7 hF hb hn7 ht
  refine st_val (cmdV [66, 105, 116, 115] (.slice (some ⟨n7, 0, none⟩) 3 3)) hF rfl rfl (by decide) (fun w => by kernel_rfl) ?_
  clear hF
  intro a hF
  refine st_load (fdB (.num 0 59)) hF rfl rfl (by decide) (load_two rfl rfl (h6.below hb).k1.1) ?_
  clear hF
  intro a hF
  refine st_val (fdV (.num 0 59)) hF rfl rfl (by decide) (fun w => by kernel_rfl) ?_
  clear hF
  intro a hF
  refine st_load (fdB (.num 1 60)) hF rfl rfl (by decide) (load_two rfl rfl (h6.below hb).k2.1) ?_
  clear hF
  intro a hF
  refine st_val (fdV (.num 1 60)) hF rfl rfl (by decide) (fun w => by kernel_rfl) ?_
  clear hF
  intro a hF
  refine st_load (fdB (.num 2 61)) hF rfl rfl (by decide) (load_two rfl rfl (h6.below hb).k3.1) ?_
  clear hF
  intro a hF
  refine st_val (fdV (.num 2 61)) hF rfl rfl (by decide) (fun w => by kernel_rfl) ?_
  clear hF
  intro a hF
  refine st_load (fdB (.dat 64)) hF rfl rfl (by decide) (load_one (.inr rfl) rfl rfl (h6.below hb).k6.1) ?_
  clear hF
  intro a hF
  refine st_val (fdV (.dat 64)) hF rfl rfl (by decide) (fun w => by kernel_rfl) ?_
  clear hF
  intro a hF
  refine st_slice (w0.heap.size + 7) W 79 _ 4 (#[fdV (.num 0 59), fdV (.num 1 60), fdV (.num 2 61), fdV (.dat 64)]) hF hb hB ht rfl rfl (by decide) (fun w => by kernel_rfl) ?_
  clear hF hb ht
  intro a w n8 hF hb hn8 ht
  refine st_val (cmdV [68, 97, 116, 97] (.slice (some ⟨n8, 0, none⟩) 4 4)) hF rfl rfl (by decide) (fun w => by kernel_rfl) ?_
  clear hF
  intro a hF
  refine st_load (fdB (.num 0 59)) hF rfl rfl (by decide) (load_two rfl rfl (h6.below hb).k1.1) ?_
  clear hF
  intro a hF
  refine st_val (fdV (.num 0 59)) hF rfl rfl (by decide) (fun w => by kernel_rfl) ?_
  clear hF
  intro a hF
  refine st_load (fdB (.num 1 60)) hF rfl rfl (by decide) (load_two rfl rfl (h6.below hb).k2.1) ?_
  clear hF
  intro a hF
  refine st_val (fdV (.num 1 60)) hF rfl rfl (by decide) (fun w => by kernel_rfl) ?_
  clear hF
  intro a hF
  refine st_load (fdB (.num 2 61)) hF rfl rfl (by decide) (load_two rfl rfl (h6.below hb).k3.1) ?_
  clear hF
  intro a hF
  refine st_val (fdV (.num 2 61)) hF rfl rfl (by decide) (fun w => by kernel_rfl) ?_
  clear hF
  intro a hF
  refine st_slice (w0.heap.size + 7) W 79 _ 3 (#[fdV (.num 0 59), fdV (.num 1 60), fdV (.num 2 61)]) hF hb hB ht rfl rfl (by decide) (fun w => by kernel_rfl) ?_
  clear hF hb ht
  intro a w n9 hF hb hn9 ht
  refine st_val (cmdV [90, 101, 114, 111] (.slice (some ⟨n9, 0, none⟩) 3 3)) hF rfl rfl (by decide) (fun w => by kernel_rfl) ?_
  clear hF
  intro a hF
  refine st_load (fdB (.num 0 59)) hF rfl rfl (by decide) (load_two rfl rfl (h6.below hb).k1.1) ?_
  clear hF
  intro a hF
  refine st_val (fdV (.num 0 59)) hF rfl rfl (by decide) (fun w => by kernel_rfl) ?_
  clear hF
  intro a hF
  refine st_load (fdB (.num 1 60)) hF rfl rfl (by decide) (load_two rfl rfl (h6.below hb).k2.1) ?_
  clear hF
  intro a hF
  refine st_val (fdV (.num 1 60)) hF rfl rfl (by decide) (fun w => by kernel_rfl) ?_
  clear hF
  intro a hF
  refine st_slice (w0.heap.size + 7) W 79 _ 2 (#[fdV (.num 0 59), fdV (.num 1 60)]) hF hb hB ht rfl rfl (by decide) (fun w => by kernel_rfl) ?_
  clear hF hb ht
  intro a w n10 hF hb hn10 ht
  refine st_val (cmdV [82, 101, 99, 118, 65, 99, 107] (.slice (some ⟨n10, 0, none⟩) 2 2)) hF rfl rfl (by decide) (fun w => by kernel_rfl) ?_
  clear hF
  intro a hF
  refine st_load (fdB (.num 0 59)) hF rfl rfl (by decide) (load_two rfl rfl (h6.below hb).k1.1) ?_
  clear hF
  intro a hF
  refine st_val (fdV (.num 0 59)) hF rfl rfl (by decide) (fun w => by kernel_rfl) ?_
  clear hF
  intro a hF
  refine st_load (fdB (.num 1 60)) hF rfl rfl (by decide) (load_two rfl rfl (h6.below hb).k2.1) ?_
  clear hF
  intro a hF
  refine st_val (fdV (.num 1 60)) hF rfl rfl (by decide) (fun w => by kernel_rfl) ?_
  clear hF
  intro a hF
  refine st_slice (w0.heap.size + 7) W 79 _ 2 (#[fdV (.num 0 59), fdV (.num 1 60)]) hF hb hB ht rfl rfl (by decide) (fun w => by kernel_rfl) ?_
  clear hF hb ht
  intro a w n11 hF hb hn11 ht
  refine st_val (cmdV [87, 114, 105, 116, 101, 65, 99, 107] (.slice (some ⟨n11, 0, none⟩) 2 2)) hF rfl rfl (by decide) (fun w => by kernel_rfl) ?_
  clear hF
  intro a hF
  refine st_load (fdB (.num 0 59)) hF rfl rfl (by decide) (load_two rfl rfl (h6.below hb).k1.1) ?_
  clear hF
  intro a hF
  refine st_val (fdV (.num 0 59)) hF rfl rfl (by decide) (fun w => by kernel_rfl) ?_
  clear hF
  intro a hF
  refine st_load (fdB (.num 1 60)) hF rfl rfl (by decide) (load_two rfl rfl (h6.below hb).k2.1) ?_
  clear hF
  intro a hF
  refine st_val (fdV (.num 1 60)) hF rfl rfl (by decide) (fun w => by kernel_rfl) ?_
  clear hF
  intro a hF
  refine st_val (fdB (.num 4 76)) hF rfl rfl (by decide) (fun w => by kernel_rfl) ?_
  clear hF
  intro a hF
  refine st_val (fdV (.num 4 76)) hF rfl rfl (by decide) (fun w => by kernel_rfl) ?_
  clear hF
  intro a hF
  refine st_slice (w0.heap.size + 7) W 79 _ 3 (#[fdV (.num 0 59), fdV (.num 1 60), fdV (.num 4 76)]) hF hb hB ht rfl rfl (by decide) (fun w => by kernel_rfl) ?_
  clear hF hb ht
  intro a w n12 hF hb hn12 ht
  refine st_val (cmdV [78, 101, 103, 65, 99, 107] (.slice (some ⟨n12, 0, none⟩) 3 3)) hF rfl rfl (by decide) (fun w => by kernel_rfl) ?_
  clear hF
  intro a hF
  refine st_load (fdB (.num 2 61)) hF rfl rfl (by decide) (load_two rfl rfl (h6.below hb).k3.1) ?_
  clear hF
  intro a hF
  refine st_val (fdV (.num 2 61)) hF rfl rfl (by decide) (fun w => by kernel_rfl) ?_
  clear hF
  intro a hF
  refine st_load (fdB (.num 3 62)) hF rfl rfl (by decide) (load_two rfl rfl (h6.below hb).k4.1) ?_
  clear hF
  intro a hF
  refine st_val (fdV (.num 3 62)) hF rfl rfl (by decide) (fun w => by kernel_rfl) ?_
  clear hF
  intro a hF
  refine st_slice (w0.heap.size + 7) W 79 _ 2 (#[fdV (.num 2 61), fdV (.num 3 62)]) hF hb hB ht rfl rfl (by decide) (fun w => by kernel_rfl) ?_
  clear hF hb ht
  intro a w n13 hF hb hn13 ht
  refine st_val (cmdV [66, 97, 114, 114, 105, 101, 114] (.slice (some ⟨n13, 0, none⟩) 2 2)) hF rfl rfl (by decide) (fun w => by kernel_rfl) ?_
  clear hF
  intro a hF
  refine st_load (fdB (.num 2 61)) hF rfl rfl (by decide) (load_two rfl rfl (h6.below hb).k3.1) ?_
  clear hF
  intro a hF
  refine st_val (fdV (.num 2 61)) hF rfl rfl (by decide) (fun w => by kernel_rfl) ?_
  clear hF
  intro a hF
  refine st_load (fdB (.num 3 62)) hF rfl rfl (by decide) (load_two rfl rfl (h6.below hb).k4.1) ?_
  clear hF
  intro a hF
  refine st_val (fdV (.num 3 62)) hF rfl rfl (by decide) (fun w => by kernel_rfl) ?_
  clear hF
  intro a hF
  refine st_slice (w0.heap.size + 7) W 79 _ 2 (#[fdV (.num 2 61), fdV (.num 3 62)]) hF hb hB ht rfl rfl (by decide) (fun w => by kernel_rfl) ?_
  clear hF hb ht
  intro a w n14 hF hb hn14 ht
  refine st_val (cmdV [66, 97, 114, 114, 105, 101, 114, 65, 99, 107] (.slice (some ⟨n14, 0, none⟩) 2 2)) hF rfl rfl (by decide) (fun w => by kernel_rfl) ?_
  clear hF
  intro a hF
  refine st_load (fdB (.num 0 59)) hF rfl rfl (by decide) (load_two rfl rfl (h6.below hb).k1.1) ?_
  clear hF
  intro a hF
  refine st_val (fdV (.num 0 59)) hF rfl rfl (by decide) (fun w => by kernel_rfl) ?_
  clear hF
  intro a hF
  refine st_load (fdB (.num 1 60)) hF rfl rfl (by decide) (load_two rfl rfl (h6.below hb).k2.1) ?_
  clear hF
  intro a hF
  refine st_val (fdV (.num 1 60)) hF rfl rfl (by decide) (fun w => by kernel_rfl) ?_
  clear hF
  intro a hF
  refine st_val (fdB (.num 4 77)) hF rfl rfl (by decide) (fun w => by kernel_rfl) ?_
  clear hF
  intro a hF
  refine st_val (fdV (.num 4 77)) hF rfl rfl (by decide) (fun w => by kernel_rfl) ?_
  clear hF
  intro a hF
  refine st_val (fdB (.sum 78)) hF rfl rfl (by decide) (fun w => by kernel_rfl) ?_
  clear hF
  intro a hF
  refine st_val (fdV (.sum 78)) hF rfl rfl (by decide) (fun w => by kernel_rfl) ?_
  clear hF
  intro a hF
  refine st_slice (w0.heap.size + 7) W 79 _ 4 (#[fdV (.num 0 59), fdV (.num 1 60), fdV (.num 4 77), fdV (.sum 78)]) hF hb hB ht rfl rfl (by decide) (fun w => by kernel_rfl) ?_
  clear hF hb ht
  intro a w n15 hF hb hn15 ht
  refine st_val (cmdV [83, 117, 109, 82, 101, 113, 117, 101, 115, 116] (.slice (some ⟨n15, 0, none⟩) 4 4)) hF rfl rfl (by decide) (fun w => by kernel_rfl) ?_
  clear hF
  intro a hF
  refine st_load (fdB (.num 0 59)) hF rfl rfl (by decide) (load_two rfl rfl (h6.below hb).k1.1) ?_
  clear hF
  intro a hF
  refine st_val (fdV (.num 0 59)) hF rfl rfl (by decide) (fun w => by kernel_rfl) ?_
  clear hF
  intro a hF
  refine st_load (fdB (.num 1 60)) hF rfl rfl (by decide) (load_two rfl rfl (h6.below hb).k2.1) ?_
  clear hF
  intro a hF
  refine st_val (fdV (.num 1 60)) hF rfl rfl (by decide) (fun w => by kernel_rfl) ?_
  clear hF
  intro a hF
  refine st_slice (w0.heap.size + 7) W 79 _ 2 (#[fdV (.num 0 59), fdV (.num 1 60)]) hF hb hB ht rfl rfl (by decide) (fun w => by kernel_rfl) ?_
  clear hF hb ht
  intro a w n16 hF hb hn16 ht
  refine st_val (cmdV [73, 110, 83, 121, 110, 99] (.slice (some ⟨n16, 0, none⟩) 2 2)) hF rfl rfl (by decide) (fun w => by kernel_rfl) ?_
  clear hF
  intro a hF
  refine st_load (fdB (.num 0 59)) hF rfl rfl (by decide) (load_two rfl rfl (h6.below hb).k1.1) ?_
  clear hF
  intro a hF
  refine st_val (fdV (.num 0 59)) hF rfl rfl (by decide) (fun w => by kernel_rfl) ?_
  clear hF
  intro a hF
  refine st_load (fdB (.num 1 60)) hF rfl rfl (by decide) (load_two rfl rfl (h6.below hb).k2.1) ?_
  clear hF
  intro a hF
  refine st_val (fdV (.num 1 60)) hF rfl rfl (by decide) (fun w => by kernel_rfl) ?_
  clear hF
  intro a hF
  refine st_load (fdB (.dat 64)) hF rfl rfl (by decide) (load_one (.inr rfl) rfl rfl (h6.below hb).k6.1) ?_
  clear hF
  intro a hF
  refine st_val (fdV (.dat 64)) hF rfl rfl (by decide) (fun w => by kernel_rfl) ?_
  clear hF
  intro a hF
  refine st_slice (w0.heap.size + 7) W 79 _ 3 (#[fdV (.num 0 59), fdV (.num 1 60), fdV (.dat 64)]) hF hb hB ht rfl rfl (by decide) (fun w => by kernel_rfl) ?_
  clear hF hb ht
  intro a w n17 hF hb hn17 ht
  refine st_val (cmdV [83, 121, 110, 99, 68, 97, 116, 97] (.slice (some ⟨n17, 0, none⟩) 3 3)) hF rfl rfl (by decide) (fun w => by kernel_rfl) ?_
  clear hF
  intro a hF
  refine st_load (fdB (.num 0 59)) hF rfl rfl (by decide) (load_two rfl rfl (h6.below hb).k1.1) ?_
  clear hF
  intro a hF
  refine st_val (fdV (.num 0 59)) hF rfl rfl (by decide) (fun w => by kernel_rfl) ?_
  clear hF
  intro a hF
  refine st_load (fdB (.num 1 60)) hF rfl rfl (by decide) (load_two rfl rfl (h6.below hb).k2.1) ?_
  clear hF
  intro a hF
  refine st_val (fdV (.num 1 60)) hF rfl rfl (by decide) (fun w => by kernel_rfl) ?_
  clear hF
  intro a hF
  refine st_slice (w0.heap.size + 7) W 79 _ 2 (#[fdV (.num 0 59), fdV (.num 1 60)]) hF hb hB ht rfl rfl (by decide) (fun w => by kernel_rfl) ?_
  clear hF hb ht
  intro a w n18 hF hb hn18 ht
  refine st_val (cmdV [83, 121, 110, 99, 65, 99, 107] (.slice (some ⟨n18, 0, none⟩) 2 2)) hF rfl rfl (by decide) (fun w => by kernel_rfl) ?_
  clear hF
  intro a hF
  refine st_val (fdB (.num 3 65)) hF rfl rfl (by decide) (fun w => by kernel_rfl) ?_
  clear hF
  intro a hF
  refine st_val (fdV (.num 3 65)) hF rfl rfl (by decide) (fun w => by kernel_rfl) ?_
  clear hF
  intro a hF
  refine st_slice (w0.heap.size + 7) W 79 _ 1 (#[fdV (.num 3 65)]) hF hb hB ht rfl rfl (by decide) (fun w => by kernel_rfl) ?_
  clear hF hb ht
  intro a w n19 hF hb hn19 ht
  refine st_val (cmdV [83, 121, 110, 99, 68, 111, 110, 101] (.slice (some ⟨n19, 0, none⟩) 1 1)) hF rfl rfl (by decide) (fun w => by kernel_rfl) ?_
  clear hF
  intro a hF
  refine st_load (fdB (.num 0 59)) hF rfl rfl (by decide) (load_two rfl rfl (h6.below hb).k1.1) ?_
  clear hF
  intro a hF
  refine st_val (fdV (.num 0 59)) hF rfl rfl (by decide) (fun w => by kernel_rfl) ?_
  clear hF
  intro a hF
  refine st_load (fdB (.num 1 60)) hF rfl rfl (by decide) (load_two rfl rfl (h6.below hb).k2.1) ?_
  clear hF
  intro a hF
  refine st_val (fdV (.num 1 60)) hF rfl rfl (by decide) (fun w => by kernel_rfl) ?_
  clear hF
  intro a hF
  refine st_load (fdB (.sum 63)) hF rfl rfl (by decide) (load_one (.inl rfl) rfl rfl (h6.below hb).k5.1) ?_
  clear hF
  intro a hF
  refine st_val (fdV (.sum 63)) hF rfl rfl (by decide) (fun w => by kernel_rfl) ?_
  clear hF
  intro a hF
  refine st_slice (w0.heap.size + 7) W 79 _ 3 (#[fdV (.num 0 59), fdV (.num 1 60), fdV (.sum 63)]) hF hb hB ht rfl rfl (by decide) (fun w => by kernel_rfl) ?_
  clear hF hb ht
  intro a w n20 hF hb hn20 ht
  refine st_val (cmdV [86, 101, 114, 105, 102, 121, 82, 101, 113, 117, 101, 115, 116] (.slice (some ⟨n20, 0, none⟩) 3 3)) hF rfl rfl (by decide) (fun w => by kernel_rfl) ?_
  clear hF
  intro a hF
  refine st_load (fdB (.num 0 59)) hF rfl rfl (by decide) (load_two rfl rfl (h6.below hb).k1.1) ?_
  clear hF
  intro a hF
  refine st_val (fdV (.num 0 59)) hF rfl rfl (by decide) (fun w => by kernel_rfl) ?_
  clear hF
  intro a hF
  refine st_load (fdB (.num 1 60)) hF rfl rfl (by decide) (load_two rfl rfl (h6.below hb).k2.1) ?_
  clear hF
  intro a hF
  refine st_val (fdV (.num 1 60)) hF rfl rfl (by decide) (fun w => by kernel_rfl) ?_
  clear hF
  intro a hF
  refine st_val (fdB (.num 4 77)) hF rfl rfl (by decide) (fun w => by kernel_rfl) ?_
  clear hF
  intro a hF
  refine st_val (fdV (.num 4 77)) hF rfl rfl (by decide) (fun w => by kernel_rfl) ?_
  clear hF
  intro a hF
  refine st_slice (w0.heap.size + 7) W 79 _ 3 (#[fdV (.num 0 59), fdV (.num 1 60), fdV (.num 4 77)]) hF hb hB ht rfl rfl (by decide) (fun w => by kernel_rfl) ?_
  clear hF hb ht
  intro a w n21 hF hb hn21 ht
  refine st_val (cmdV [86, 101, 114, 105, 102, 121, 82, 101, 112, 108, 121] (.slice (some ⟨n21, 0, none⟩) 3 3)) hF rfl rfl (by decide) (fun w => by kernel_rfl) ?_
  clear hF
  intro a hF
  refine st_val (fdB (.num 3 65)) hF rfl rfl (by decide) (fun w => by kernel_rfl) ?_
  clear hF
  intro a hF
  refine st_val (fdV (.num 3 65)) hF rfl rfl (by decide) (fun w => by kernel_rfl) ?_
  clear hF
  intro a hF
  refine st_slice (w0.heap.size + 7) W 79 _ 1 (#[fdV (.num 3 65)]) hF hb hB ht rfl rfl (by decide) (fun w => by kernel_rfl) ?_
  clear hF hb ht
  intro a w n22 hF hb hn22 ht
  refine st_val (cmdV [86, 101, 114, 105, 102, 121, 68, 111, 110, 101] (.slice (some ⟨n22, 0, none⟩) 1 1)) hF rfl rfl (by decide) (fun w => by kernel_rfl) ?_
  clear hF
  intro a hF
  refine st_val (fdB .gens) hF rfl rfl (by decide) (fun w => by kernel_rfl) ?_
  clear hF
  intro a hF
  refine st_val (fdV (.gens)) hF rfl rfl (by decide) (fun w => by kernel_rfl) ?_
  clear hF
  intro a hF
  refine st_slice (w0.heap.size + 7) W 79 _ 1 (#[fdV (.gens)]) hF hb hB ht rfl rfl (by decide) (fun w => by kernel_rfl) ?_
  clear hF hb ht
  intro a w n23 hF hb hn23 ht
  refine st_val (cmdV [71, 101, 110, 115] (.slice (some ⟨n23, 0, none⟩) 1 1)) hF rfl rfl (by decide) (fun w => by kernel_rfl) ?_
  clear hF
  intro a hF
  refine st_load (fdB (.num 0 59)) hF rfl rfl (by decide) (load_two rfl rfl (h6.below hb).k1.1) ?_
  clear hF
  intro a hF
  refine st_val (fdV (.num 0 59)) hF rfl rfl (by decide) (fun w => by kernel_rfl) ?_
  clear hF
  intro a hF
  refine st_load (fdB (.num 1 60)) hF rfl rfl (by decide) (load_two rfl rfl (h6.below hb).k2.1) ?_
  clear hF
  intro a hF
  refine st_val (fdV (.num 1 60)) hF rfl rfl (by decide) (fun w => by kernel_rfl) ?_
  clear hF
  intro a hF
  refine st_slice (w0.heap.size + 7) W 79 _ 2 (#[fdV (.num 0 59), fdV (.num 1 60)]) hF hb hB ht rfl rfl (by decide) (fun w => by kernel_rfl) ?_
  clear hF hb ht
  intro a w n24 hF hb hn24 ht
  refine st_val (cmdV [82, 101, 97, 100, 82, 101, 113, 117, 101, 115, 116] (.slice (some ⟨n24, 0, none⟩) 2 2)) hF rfl rfl (by decide) (fun w => by kernel_rfl) ?_
  clear hF
  intro a hF
  refine st_load (fdB (.num 0 59)) hF rfl rfl (by decide) (load_two rfl rfl (h6.below hb).k1.1) ?_
  clear hF
  intro a hF
  refine st_val (fdV (.num 0 59)) hF rfl rfl (by decide) (fun w => by kernel_rfl) ?_
  clear hF
  intro a hF
  refine st_load (fdB (.num 1 60)) hF rfl rfl (by decide) (load_two rfl rfl (h6.below hb).k2.1) ?_
  clear hF
  intro a hF
  refine st_val (fdV (.num 1 60)) hF rfl rfl (by decide) (fun w => by kernel_rfl) ?_
  clear hF
  intro a hF
  refine st_val (fdB (.num 4 79)) hF rfl rfl (by decide) (fun w => by kernel_rfl) ?_
  clear hF
  intro a hF
  refine st_val (fdV (.num 4 79)) hF rfl rfl (by decide) (fun w => by kernel_rfl) ?_
  clear hF
  intro a hF
  refine st_val (fdB (.dat 80)) hF rfl rfl (by decide) (fun w => by kernel_rfl) ?_
  clear hF
  intro a hF
  refine st_val (fdV (.dat 80)) hF rfl rfl (by decide) (fun w => by kernel_rfl) ?_
  clear hF
  intro a hF
  refine st_slice (w0.heap.size + 7) W 79 _ 4 (#[fdV (.num 0 59), fdV (.num 1 60), fdV (.num 4 79), fdV (.dat 80)]) hF hb hB ht rfl rfl (by decide) (fun w => by kernel_rfl) ?_
  clear hF hb ht
  intro a w n25 hF hb hn25 ht
  refine st_val (cmdV [82, 101, 97, 100, 82, 101, 112, 108, 121] (.slice (some ⟨n25, 0, none⟩) 4 4)) hF rfl rfl (by decide) (fun w => by kernel_rfl) ?_
  clear hF
  intro a hF
  refine st_val (.agg #[.string ⟨[].toArray⟩, .slice none 0 0, .string ⟨[70, 101, 97, 116, 117, 114, 101].toArray⟩, .slice (some ⟨n1, 0, none⟩) 3 3, .string ⟨[67, 104, 97, 108, 108, 101, 110, 103, 101].toArray⟩, .slice (some ⟨n2, 0, none⟩) 1 1, .string ⟨[82, 101, 115, 112, 111, 110, 115, 101].toArray⟩, .slice (some ⟨n3, 0, none⟩) 1 1, .string ⟨[83, 105, 122, 101, 115].toArray⟩, .slice (some ⟨n4, 0, none⟩) 3 3, .string ⟨[73, 100, 115].toArray⟩, .slice (some ⟨n5, 0, none⟩) 3 3, .string ⟨[83, 116, 97, 116, 101].toArray⟩, .slice (some ⟨n6, 0, none⟩) 1 1, .string ⟨[66, 105, 116, 115].toArray⟩, .slice (some ⟨n7, 0, none⟩) 3 3, .string ⟨[68, 97, 116, 97].toArray⟩, .slice (some ⟨n8, 0, none⟩) 4 4, .string ⟨[90, 101, 114, 111].toArray⟩, .slice (some ⟨n9, 0, none⟩) 3 3, .string ⟨[82, 101, 99, 118, 65, 99, 107].toArray⟩, .slice (some ⟨n10, 0, none⟩) 2 2, .string ⟨[87, 114, 105, 116, 101, 65, 99, 107].toArray⟩, .slice (some ⟨n11, 0, none⟩) 2 2, .string ⟨[78, 101, 103, 65, 99, 107].toArray⟩, .slice (some ⟨n12, 0, none⟩) 3 3, .string ⟨[66, 97, 114, 114, 105, 101, 114].toArray⟩, .slice (some ⟨n13, 0, none⟩) 2 2, .string ⟨[66, 97, 114, 114, 105, 101, 114, 65, 99, 107].toArray⟩, .slice (some ⟨n14, 0, none⟩) 2 2, .string ⟨[83, 117, 109, 82, 101, 113, 117, 101, 115, 116].toArray⟩, .slice (some ⟨n15, 0, none⟩) 4 4, .string ⟨[73, 110, 83, 121, 110, 99].toArray⟩, .slice (some ⟨n16, 0, none⟩) 2 2, .string ⟨[83, 121, 110, 99, 68, 97, 116, 97].toArray⟩, .slice (some ⟨n17, 0, none⟩) 3 3, .string ⟨[83, 121, 110, 99, 65, 99, 107].toArray⟩, .slice (some ⟨n18, 0, none⟩) 2 2, .string ⟨[83, 121, 110, 99, 68, 111, 110, 101].toArray⟩, .slice (some ⟨n19, 0, none⟩) 1 1, .string ⟨[86, 101, 114, 105, 102, 121, 82, 101, 113, 117, 101, 115, 116].toArray⟩, .slice (some ⟨n20, 0, none⟩) 3 3, .string ⟨[86, 101, 114, 105, 102, 121, 82, 101, 112, 108, 121].toArray⟩, .slice (some ⟨n21, 0, none⟩) 3 3, .string ⟨[86, 101, 114, 105, 102, 121, 68, 111, 110, 101].toArray⟩, .slice (some ⟨n22, 0, none⟩) 1 1, .string ⟨[71, 101, 110, 115].toArray⟩, .slice (some ⟨n23, 0, none⟩) 1 1, .string ⟨[82, 101, 97, 100, 82, 101, 113, 117, 101, 115, 116].toArray⟩, .slice (some ⟨n24, 0, none⟩) 2 2, .string ⟨[82, 101, 97, 100, 82, 101, 112, 108, 121].toArray⟩, .slice (some ⟨n25, 0, none⟩) 4 4]) hF rfl rfl (by decide) (fun w => by kernel_rfl) ?_
  clear hF
  intro a hF
  have hk : w.heap[w0.heap.size]? = some (.cells cmd0 75 (0, 0)) := (hb.block _ (by omega)).trans hk0
  have hp : a.tmps.getD 0 undef = .pointer (some ⟨w0.heap.size, 0, none⟩) := (hF.2.2 0).trans (by kernel_rfl)
  refine wpList_store_row rfl 75 (.tmp 0) (.tmp 182) rfl w0.heap.size #[.string ⟨[].toArray⟩, .slice none 0 0, .string ⟨[70, 101, 97, 116, 117, 114, 101].toArray⟩, .slice (some ⟨n1, 0, none⟩) 3 3, .string ⟨[67, 104, 97, 108, 108, 101, 110, 103, 101].toArray⟩, .slice (some ⟨n2, 0, none⟩) 1 1, .string ⟨[82, 101, 115, 112, 111, 110, 115, 101].toArray⟩, .slice (some ⟨n3, 0, none⟩) 1 1, .string ⟨[83, 105, 122, 101, 115].toArray⟩, .slice (some ⟨n4, 0, none⟩) 3 3, .string ⟨[73, 100, 115].toArray⟩, .slice (some ⟨n5, 0, none⟩) 3 3, .string ⟨[83, 116, 97, 116, 101].toArray⟩, .slice (some ⟨n6, 0, none⟩) 1 1, .string ⟨[66, 105, 116, 115].toArray⟩, .slice (some ⟨n7, 0, none⟩) 3 3, .string ⟨[68, 97, 116, 97].toArray⟩, .slice (some ⟨n8, 0, none⟩) 4 4, .string ⟨[90, 101, 114, 111].toArray⟩, .slice (some ⟨n9, 0, none⟩) 3 3, .string ⟨[82, 101, 99, 118, 65, 99, 107].toArray⟩, .slice (some ⟨n10, 0, none⟩) 2 2, .string ⟨[87, 114, 105, 116, 101, 65, 99, 107].toArray⟩, .slice (some ⟨n11, 0, none⟩) 2 2, .string ⟨[78, 101, 103, 65, 99, 107].toArray⟩, .slice (some ⟨n12, 0, none⟩) 3 3, .string ⟨[66, 97, 114, 114, 105, 101, 114].toArray⟩, .slice (some ⟨n13, 0, none⟩) 2 2, .string ⟨[66, 97, 114, 114, 105, 101, 114, 65, 99, 107].toArray⟩, .slice (some ⟨n14, 0, none⟩) 2 2, .string ⟨[83, 117, 109, 82, 101, 113, 117, 101, 115, 116].toArray⟩, .slice (some ⟨n15, 0, none⟩) 4 4, .string ⟨[73, 110, 83, 121, 110, 99].toArray⟩, .slice (some ⟨n16, 0, none⟩) 2 2, .string ⟨[83, 121, 110, 99, 68, 97, 116, 97].toArray⟩, .slice (some ⟨n17, 0, none⟩) 3 3, .string ⟨[83, 121, 110, 99, 65, 99, 107].toArray⟩, .slice (some ⟨n18, 0, none⟩) 2 2, .string ⟨[83, 121, 110, 99, 68, 111, 110, 101].toArray⟩, .slice (some ⟨n19, 0, none⟩) 1 1, .string ⟨[86, 101, 114, 105, 102, 121, 82, 101, 113, 117, 101, 115, 116].toArray⟩, .slice (some ⟨n20, 0, none⟩) 3 3, .string ⟨[86, 101, 114, 105, 102, 121, 82, 101, 112, 108, 121].toArray⟩, .slice (some ⟨n21, 0, none⟩) 3 3, .string ⟨[86, 101, 114, 105, 102, 121, 68, 111, 110, 101].toArray⟩, .slice (some ⟨n22, 0, none⟩) 1 1, .string ⟨[71, 101, 110, 115].toArray⟩, .slice (some ⟨n23, 0, none⟩) 1 1, .string ⟨[82, 101, 97, 100, 82, 101, 113, 117, 101, 115, 116].toArray⟩, .slice (some ⟨n24, 0, none⟩) 2 2, .string ⟨[82, 101, 97, 100, 82, 101, 112, 108, 121].toArray⟩, .slice (some ⟨n25, 0, none⟩) 4 4] ((congrFun hF.eval _).trans (by kernel_rfl)) ((congrFun hF.eval _).trans (by kernel_rfl)) _ _ hk (by kernel_rfl) (by kernel_rfl) (by kernel_rfl) ?_
  have hd : a.defers = [] := hF.1
  clear hF
  have hl := run_loadVar_row (P := Tryd.prog) (w.setRow w0.heap.size #[.string ⟨[].toArray⟩, .slice none 0 0, .string ⟨[70, 101, 97, 116, 117, 114, 101].toArray⟩, .slice (some ⟨n1, 0, none⟩) 3 3, .string ⟨[67, 104, 97, 108, 108, 101, 110, 103, 101].toArray⟩, .slice (some ⟨n2, 0, none⟩) 1 1, .string ⟨[82, 101, 115, 112, 111, 110, 115, 101].toArray⟩, .slice (some ⟨n3, 0, none⟩) 1 1, .string ⟨[83, 105, 122, 101, 115].toArray⟩, .slice (some ⟨n4, 0, none⟩) 3 3, .string ⟨[73, 100, 115].toArray⟩, .slice (some ⟨n5, 0, none⟩) 3 3, .string ⟨[83, 116, 97, 116, 101].toArray⟩, .slice (some ⟨n6, 0, none⟩) 1 1, .string ⟨[66, 105, 116, 115].toArray⟩, .slice (some ⟨n7, 0, none⟩) 3 3, .string ⟨[68, 97, 116, 97].toArray⟩, .slice (some ⟨n8, 0, none⟩) 4 4, .string ⟨[90, 101, 114, 111].toArray⟩, .slice (some ⟨n9, 0, none⟩) 3 3, .string ⟨[82, 101, 99, 118, 65, 99, 107].toArray⟩, .slice (some ⟨n10, 0, none⟩) 2 2, .string ⟨[87, 114, 105, 116, 101, 65, 99, 107].toArray⟩, .slice (some ⟨n11, 0, none⟩) 2 2, .string ⟨[78, 101, 103, 65, 99, 107].toArray⟩, .slice (some ⟨n12, 0, none⟩) 3 3, .string ⟨[66, 97, 114, 114, 105, 101, 114].toArray⟩, .slice (some ⟨n13, 0, none⟩) 2 2, .string ⟨[66, 97, 114, 114, 105, 101, 114, 65, 99, 107].toArray⟩, .slice (some ⟨n14, 0, none⟩) 2 2, .string ⟨[83, 117, 109, 82, 101, 113, 117, 101, 115, 116].toArray⟩, .slice (some ⟨n15, 0, none⟩) 4 4, .string ⟨[73, 110, 83, 121, 110, 99].toArray⟩, .slice (some ⟨n16, 0, none⟩) 2 2, .string ⟨[83, 121, 110, 99, 68, 97, 116, 97].toArray⟩, .slice (some ⟨n17, 0, none⟩) 3 3, .string ⟨[83, 121, 110, 99, 65, 99, 107].toArray⟩, .slice (some ⟨n18, 0, none⟩) 2 2, .string ⟨[83, 121, 110, 99, 68, 111, 110, 101].toArray⟩, .slice (some ⟨n19, 0, none⟩) 1 1, .string ⟨[86, 101, 114, 105, 102, 121, 82, 101, 113, 117, 101, 115, 116].toArray⟩, .slice (some ⟨n20, 0, none⟩) 3 3, .string ⟨[86, 101, 114, 105, 102, 121, 82, 101, 112, 108, 121].toArray⟩, .slice (some ⟨n21, 0, none⟩) 3 3, .string ⟨[86, 101, 114, 105, 102, 121, 68, 111, 110, 101].toArray⟩, .slice (some ⟨n22, 0, none⟩) 1 1, .string ⟨[71, 101, 110, 115].toArray⟩, .slice (some ⟨n23, 0, none⟩) 1 1, .string ⟨[82, 101, 97, 100, 82, 101, 113, 117, 101, 115, 116].toArray⟩, .slice (some ⟨n24, 0, none⟩) 2 2, .string ⟨[82, 101, 97, 100, 82, 101, 112, 108, 121].toArray⟩, .slice (some ⟨n25, 0, none⟩) 4 4]) w0.heap.size 75 75 #[.string ⟨[].toArray⟩, .slice none 0 0, .string ⟨[70, 101, 97, 116, 117, 114, 101].toArray⟩, .slice (some ⟨n1, 0, none⟩) 3 3, .string ⟨[67, 104, 97, 108, 108, 101, 110, 103, 101].toArray⟩, .slice (some ⟨n2, 0, none⟩) 1 1, .string ⟨[82, 101, 115, 112, 111, 110, 115, 101].toArray⟩, .slice (some ⟨n3, 0, none⟩) 1 1, .string ⟨[83, 105, 122, 101, 115].toArray⟩, .slice (some ⟨n4, 0, none⟩) 3 3, .string ⟨[73, 100, 115].toArray⟩, .slice (some ⟨n5, 0, none⟩) 3 3, .string ⟨[83, 116, 97, 116, 101].toArray⟩, .slice (some ⟨n6, 0, none⟩) 1 1, .string ⟨[66, 105, 116, 115].toArray⟩, .slice (some ⟨n7, 0, none⟩) 3 3, .string ⟨[68, 97, 116, 97].toArray⟩, .slice (some ⟨n8, 0, none⟩) 4 4, .string ⟨[90, 101, 114, 111].toArray⟩, .slice (some ⟨n9, 0, none⟩) 3 3, .string ⟨[82, 101, 99, 118, 65, 99, 107].toArray⟩, .slice (some ⟨n10, 0, none⟩) 2 2, .string ⟨[87, 114, 105, 116, 101, 65, 99, 107].toArray⟩, .slice (some ⟨n11, 0, none⟩) 2 2, .string ⟨[78, 101, 103, 65, 99, 107].toArray⟩, .slice (some ⟨n12, 0, none⟩) 3 3, .string ⟨[66, 97, 114, 114, 105, 101, 114].toArray⟩, .slice (some ⟨n13, 0, none⟩) 2 2, .string ⟨[66, 97, 114, 114, 105, 101, 114, 65, 99, 107].toArray⟩, .slice (some ⟨n14, 0, none⟩) 2 2, .string ⟨[83, 117, 109, 82, 101, 113, 117, 101, 115, 116].toArray⟩, .slice (some ⟨n15, 0, none⟩) 4 4, .string ⟨[73, 110, 83, 121, 110, 99].toArray⟩, .slice (some ⟨n16, 0, none⟩) 2 2, .string ⟨[83, 121, 110, 99, 68, 97, 116, 97].toArray⟩, .slice (some ⟨n17, 0, none⟩) 3 3, .string ⟨[83, 121, 110, 99, 65, 99, 107].toArray⟩, .slice (some ⟨n18, 0, none⟩) 2 2, .string ⟨[83, 121, 110, 99, 68, 111, 110, 101].toArray⟩, .slice (some ⟨n19, 0, none⟩) 1 1, .string ⟨[86, 101, 114, 105, 102, 121, 82, 101, 113, 117, 101, 115, 116].toArray⟩, .slice (some ⟨n20, 0, none⟩) 3 3, .string ⟨[86, 101, 114, 105, 102, 121, 82, 101, 112, 108, 121].toArray⟩, .slice (some ⟨n21, 0, none⟩) 3 3, .string ⟨[86, 101, 114, 105, 102, 121, 68, 111, 110, 101].toArray⟩, .slice (some ⟨n22, 0, none⟩) 1 1, .string ⟨[71, 101, 110, 115].toArray⟩, .slice (some ⟨n23, 0, none⟩) 1 1, .string ⟨[82, 101, 97, 100, 82, 101, 113, 117, 101, 115, 116].toArray⟩, .slice (some ⟨n24, 0, none⟩) 2 2, .string ⟨[82, 101, 97, 100, 82, 101, 112, 108, 121].toArray⟩, .slice (some ⟨n25, 0, none⟩) 4 4] (0, 0) (.array 26 74) (setRow_heap _ _ _ _ _ _ hk) (by kernel_rfl) rfl (by kernel_rfl)
  refine wpList_nil ?_
  refine hnext _ _ ?_
  refine wp_ret ?_
  refine bodyPost_ret (v := .agg #[.string ⟨[].toArray⟩, .slice none 0 0, .string ⟨[70, 101, 97, 116, 117, 114, 101].toArray⟩, .slice (some ⟨n1, 0, none⟩) 3 3, .string ⟨[67, 104, 97, 108, 108, 101, 110, 103, 101].toArray⟩, .slice (some ⟨n2, 0, none⟩) 1 1, .string ⟨[82, 101, 115, 112, 111, 110, 115, 101].toArray⟩, .slice (some ⟨n3, 0, none⟩) 1 1, .string ⟨[83, 105, 122, 101, 115].toArray⟩, .slice (some ⟨n4, 0, none⟩) 3 3, .string ⟨[73, 100, 115].toArray⟩, .slice (some ⟨n5, 0, none⟩) 3 3, .string ⟨[83, 116, 97, 116, 101].toArray⟩, .slice (some ⟨n6, 0, none⟩) 1 1, .string ⟨[66, 105, 116, 115].toArray⟩, .slice (some ⟨n7, 0, none⟩) 3 3, .string ⟨[68, 97, 116, 97].toArray⟩, .slice (some ⟨n8, 0, none⟩) 4 4, .string ⟨[90, 101, 114, 111].toArray⟩, .slice (some ⟨n9, 0, none⟩) 3 3, .string ⟨[82, 101, 99, 118, 65, 99, 107].toArray⟩, .slice (some ⟨n10, 0, none⟩) 2 2, .string ⟨[87, 114, 105, 116, 101, 65, 99, 107].toArray⟩, .slice (some ⟨n11, 0, none⟩) 2 2, .string ⟨[78, 101, 103, 65, 99, 107].toArray⟩, .slice (some ⟨n12, 0, none⟩) 3 3, .string ⟨[66, 97, 114, 114, 105, 101, 114].toArray⟩, .slice (some ⟨n13, 0, none⟩) 2 2, .string ⟨[66, 97, 114, 114, 105, 101, 114, 65, 99, 107].toArray⟩, .slice (some ⟨n14, 0, none⟩) 2 2, .string ⟨[83, 117, 109, 82, 101, 113, 117, 101, 115, 116].toArray⟩, .slice (some ⟨n15, 0, none⟩) 4 4, .string ⟨[73, 110, 83, 121, 110, 99].toArray⟩, .slice (some ⟨n16, 0, none⟩) 2 2, .string ⟨[83, 121, 110, 99, 68, 97, 116, 97].toArray⟩, .slice (some ⟨n17, 0, none⟩) 3 3, .string ⟨[83, 121, 110, 99, 65, 99, 107].toArray⟩, .slice (some ⟨n18, 0, none⟩) 2 2, .string ⟨[83, 121, 110, 99, 68, 111, 110, 101].toArray⟩, .slice (some ⟨n19, 0, none⟩) 1 1, .string ⟨[86, 101, 114, 105, 102, 121, 82, 101, 113, 117, 101, 115, 116].toArray⟩, .slice (some ⟨n20, 0, none⟩) 3 3, .string ⟨[86, 101, 114, 105, 102, 121, 82, 101, 112, 108, 121].toArray⟩, .slice (some ⟨n21, 0, none⟩) 3 3, .string ⟨[86, 101, 114, 105, 102, 121, 68, 111, 110, 101].toArray⟩, .slice (some ⟨n22, 0, none⟩) 1 1, .string ⟨[71, 101, 110, 115].toArray⟩, .slice (some ⟨n23, 0, none⟩) 1 1, .string ⟨[82, 101, 97, 100, 82, 101, 113, 117, 101, 115, 116].toArray⟩, .slice (some ⟨n24, 0, none⟩) 2 2, .string ⟨[82, 101, 97, 100, 82, 101, 112, 108, 121].toArray⟩, .slice (some ⟨n25, 0, none⟩) 4 4]) ?_ hd ?_
  · exact results_cell rfl hp hl
  · have hge : ∀ p ∈ [(n1, #[fdV (.num 0 65), fdV (.num 3 66), fdV (.num 4 65)]), (n2, #[fdV (.dat 67)]), (n3, #[fdV (.sum 63)]), (n4, #[fdV (.num 1 68), fdV (.num 3 69), fdV (.num 4 65)]), (n5, #[fdV (.num 3 70), fdV (.num 4 71), fdV (.gens)]), (n6, #[fdV (.num 4 72)]), (n7, #[fdV (.num 1 73), fdV (.num 3 74), fdV (.dat 75)]), (n8, #[fdV (.num 0 59), fdV (.num 1 60), fdV (.num 2 61), fdV (.dat 64)]), (n9, #[fdV (.num 0 59), fdV (.num 1 60), fdV (.num 2 61)]), (n10, #[fdV (.num 0 59), fdV (.num 1 60)]), (n11, #[fdV (.num 0 59), fdV (.num 1 60)]), (n12, #[fdV (.num 0 59), fdV (.num 1 60), fdV (.num 4 76)]), (n13, #[fdV (.num 2 61), fdV (.num 3 62)]), (n14, #[fdV (.num 2 61), fdV (.num 3 62)]), (n15, #[fdV (.num 0 59), fdV (.num 1 60), fdV (.num 4 77), fdV (.sum 78)]), (n16, #[fdV (.num 0 59), fdV (.num 1 60)]), (n17, #[fdV (.num 0 59), fdV (.num 1 60), fdV (.dat 64)]), (n18, #[fdV (.num 0 59), fdV (.num 1 60)]), (n19, #[fdV (.num 3 65)]), (n20, #[fdV (.num 0 59), fdV (.num 1 60), fdV (.sum 63)]), (n21, #[fdV (.num 0 59), fdV (.num 1 60), fdV (.num 4 77)]), (n22, #[fdV (.num 3 65)]), (n23, #[fdV (.gens)]), (n24, #[fdV (.num 0 59), fdV (.num 1 60)]), (n25, #[fdV (.num 0 59), fdV (.num 1 60), fdV (.num 4 79), fdV (.dat 80)])], w0.heap.size + 7 ≤ p.1 := List.forall_mem_cons.2 ⟨hn1, List.forall_mem_cons.2 ⟨hn2, List.forall_mem_cons.2 ⟨hn3, List.forall_mem_cons.2 ⟨hn4, List.forall_mem_cons.2 ⟨hn5, List.forall_mem_cons.2 ⟨hn6, List.forall_mem_cons.2 ⟨hn7, List.forall_mem_cons.2 ⟨hn8, List.forall_mem_cons.2 ⟨hn9, List.forall_mem_cons.2 ⟨hn10, List.forall_mem_cons.2 ⟨hn11, List.forall_mem_cons.2 ⟨hn12, List.forall_mem_cons.2 ⟨hn13, List.forall_mem_cons.2 ⟨hn14, List.forall_mem_cons.2 ⟨hn15, List.forall_mem_cons.2 ⟨hn16, List.forall_mem_cons.2 ⟨hn17, List.forall_mem_cons.2 ⟨hn18, List.forall_mem_cons.2 ⟨hn19, List.forall_mem_cons.2 ⟨hn20, List.forall_mem_cons.2 ⟨hn21, List.forall_mem_cons.2 ⟨hn22, List.forall_mem_cons.2 ⟨hn23, List.forall_mem_cons.2 ⟨hn24, List.forall_mem_cons.2 ⟨hn25, fun p hp => nomatch hp⟩⟩⟩⟩⟩⟩⟩⟩⟩⟩⟩⟩⟩⟩⟩⟩⟩⟩⟩⟩⟩⟩⟩⟩⟩
    have hT : ∀ p ∈ [(n1, #[fdV (.num 0 65), fdV (.num 3 66), fdV (.num 4 65)]), (n2, #[fdV (.dat 67)]), (n3, #[fdV (.sum 63)]), (n4, #[fdV (.num 1 68), fdV (.num 3 69), fdV (.num 4 65)]), (n5, #[fdV (.num 3 70), fdV (.num 4 71), fdV (.gens)]), (n6, #[fdV (.num 4 72)]), (n7, #[fdV (.num 1 73), fdV (.num 3 74), fdV (.dat 75)]), (n8, #[fdV (.num 0 59), fdV (.num 1 60), fdV (.num 2 61), fdV (.dat 64)]), (n9, #[fdV (.num 0 59), fdV (.num 1 60), fdV (.num 2 61)]), (n10, #[fdV (.num 0 59), fdV (.num 1 60)]), (n11, #[fdV (.num 0 59), fdV (.num 1 60)]), (n12, #[fdV (.num 0 59), fdV (.num 1 60), fdV (.num 4 76)]), (n13, #[fdV (.num 2 61), fdV (.num 3 62)]), (n14, #[fdV (.num 2 61), fdV (.num 3 62)]), (n15, #[fdV (.num 0 59), fdV (.num 1 60), fdV (.num 4 77), fdV (.sum 78)]), (n16, #[fdV (.num 0 59), fdV (.num 1 60)]), (n17, #[fdV (.num 0 59), fdV (.num 1 60), fdV (.dat 64)]), (n18, #[fdV (.num 0 59), fdV (.num 1 60)]), (n19, #[fdV (.num 3 65)]), (n20, #[fdV (.num 0 59), fdV (.num 1 60), fdV (.sum 63)]), (n21, #[fdV (.num 0 59), fdV (.num 1 60), fdV (.num 4 77)]), (n22, #[fdV (.num 3 65)]), (n23, #[fdV (.gens)]), (n24, #[fdV (.num 0 59), fdV (.num 1 60)]), (n25, #[fdV (.num 0 59), fdV (.num 1 60), fdV (.num 4 79), fdV (.dat 80)])], (w.setRow w0.heap.size #[.string ⟨[].toArray⟩, .slice none 0 0, .string ⟨[70, 101, 97, 116, 117, 114, 101].toArray⟩, .slice (some ⟨n1, 0, none⟩) 3 3, .string ⟨[67, 104, 97, 108, 108, 101, 110, 103, 101].toArray⟩, .slice (some ⟨n2, 0, none⟩) 1 1, .string ⟨[82, 101, 115, 112, 111, 110, 115, 101].toArray⟩, .slice (some ⟨n3, 0, none⟩) 1 1, .string ⟨[83, 105, 122, 101, 115].toArray⟩, .slice (some ⟨n4, 0, none⟩) 3 3, .string ⟨[73, 100, 115].toArray⟩, .slice (some ⟨n5, 0, none⟩) 3 3, .string ⟨[83, 116, 97, 116, 101].toArray⟩, .slice (some ⟨n6, 0, none⟩) 1 1, .string ⟨[66, 105, 116, 115].toArray⟩, .slice (some ⟨n7, 0, none⟩) 3 3, .string ⟨[68, 97, 116, 97].toArray⟩, .slice (some ⟨n8, 0, none⟩) 4 4, .string ⟨[90, 101, 114, 111].toArray⟩, .slice (some ⟨n9, 0, none⟩) 3 3, .string ⟨[82, 101, 99, 118, 65, 99, 107].toArray⟩, .slice (some ⟨n10, 0, none⟩) 2 2, .string ⟨[87, 114, 105, 116, 101, 65, 99, 107].toArray⟩, .slice (some ⟨n11, 0, none⟩) 2 2, .string ⟨[78, 101, 103, 65, 99, 107].toArray⟩, .slice (some ⟨n12, 0, none⟩) 3 3, .string ⟨[66, 97, 114, 114, 105, 101, 114].toArray⟩, .slice (some ⟨n13, 0, none⟩) 2 2, .string ⟨[66, 97, 114, 114, 105, 101, 114, 65, 99, 107].toArray⟩, .slice (some ⟨n14, 0, none⟩) 2 2, .string ⟨[83, 117, 109, 82, 101, 113, 117, 101, 115, 116].toArray⟩, .slice (some ⟨n15, 0, none⟩) 4 4, .string ⟨[73, 110, 83, 121, 110, 99].toArray⟩, .slice (some ⟨n16, 0, none⟩) 2 2, .string ⟨[83, 121, 110, 99, 68, 97, 116, 97].toArray⟩, .slice (some ⟨n17, 0, none⟩) 3 3, .string ⟨[83, 121, 110, 99, 65, 99, 107].toArray⟩, .slice (some ⟨n18, 0, none⟩) 2 2, .string ⟨[83, 121, 110, 99, 68, 111, 110, 101].toArray⟩, .slice (some ⟨n19, 0, none⟩) 1 1, .string ⟨[86, 101, 114, 105, 102, 121, 82, 101, 113, 117, 101, 115, 116].toArray⟩, .slice (some ⟨n20, 0, none⟩) 3 3, .string ⟨[86, 101, 114, 105, 102, 121, 82, 101, 112, 108, 121].toArray⟩, .slice (some ⟨n21, 0, none⟩) 3 3, .string ⟨[86, 101, 114, 105, 102, 121, 68, 111, 110, 101].toArray⟩, .slice (some ⟨n22, 0, none⟩) 1 1, .string ⟨[71, 101, 110, 115].toArray⟩, .slice (some ⟨n23, 0, none⟩) 1 1, .string ⟨[82, 101, 97, 100, 82, 101, 113, 117, 101, 115, 116].toArray⟩, .slice (some ⟨n24, 0, none⟩) 2 2, .string ⟨[82, 101, 97, 100, 82, 101, 112, 108, 121].toArray⟩, .slice (some ⟨n25, 0, none⟩) 4 4]).heap[p.1]? = some (.cells p.2 79 (0, 0)) := fun p hp => by
      have h1 := hge p hp
      rw [setRow_other _ _ _ _ (by omega)]
      exact ht p (List.mem_reverse.2 hp)
    clear ht hl
    refine ⟨fun k => [0, n1, n2, n3, n4, n5, n6, n7, n8, n9, n10, n11, n12, n13, n14, n15, n16, n17, n18, n19, n20, n21, n22, n23, n24, n25].getD k 0, by kernel_rfl, ?_, below_setRow (hb7.trans (hb.mono (by omega))) (Nat.le_refl _) _⟩
    intro i c hi hc
    have hi26 : i < 26 := (List.getElem?_eq_some_iff.1 hc).1
    match i, hi, hi26, hc with
    | 1, _, _, hc => cases (show some ([70, 101, 97, 116, 117, 114, 101], [.num 0 65, .num 3 66, .num 4 65]) = some c from hc); exact ⟨hT (n1, #[fdV (.num 0 65), fdV (.num 3 66), fdV (.num 4 65)]) (List.mem_of_getElem? (i := 0) rfl), Nat.le_trans (Nat.le_add_right _ 7) hn1⟩
    | 2, _, _, hc => cases (show some ([67, 104, 97, 108, 108, 101, 110, 103, 101], [.dat 67]) = some c from hc); exact ⟨hT (n2, #[fdV (.dat 67)]) (List.mem_of_getElem? (i := 1) rfl), Nat.le_trans (Nat.le_add_right _ 7) hn2⟩
    | 3, _, _, hc => cases (show some ([82, 101, 115, 112, 111, 110, 115, 101], [.sum 63]) = some c from hc); exact ⟨hT (n3, #[fdV (.sum 63)]) (List.mem_of_getElem? (i := 2) rfl), Nat.le_trans (Nat.le_add_right _ 7) hn3⟩
    | 4, _, _, hc => cases (show some ([83, 105, 122, 101, 115], [.num 1 68, .num 3 69, .num 4 65]) = some c from hc); exact ⟨hT (n4, #[fdV (.num 1 68), fdV (.num 3 69), fdV (.num 4 65)]) (List.mem_of_getElem? (i := 3) rfl), Nat.le_trans (Nat.le_add_right _ 7) hn4⟩
    | 5, _, _, hc => cases (show some ([73, 100, 115], [.num 3 70, .num 4 71, .gens]) = some c from hc); exact ⟨hT (n5, #[fdV (.num 3 70), fdV (.num 4 71), fdV (.gens)]) (List.mem_of_getElem? (i := 4) rfl), Nat.le_trans (Nat.le_add_right _ 7) hn5⟩
    | 6, _, _, hc => cases (show some ([83, 116, 97, 116, 101], [.num 4 72]) = some c from hc); exact ⟨hT (n6, #[fdV (.num 4 72)]) (List.mem_of_getElem? (i := 5) rfl), Nat.le_trans (Nat.le_add_right _ 7) hn6⟩
    | 7, _, _, hc => cases (show some ([66, 105, 116, 115], [.num 1 73, .num 3 74, .dat 75]) = some c from hc); exact ⟨hT (n7, #[fdV (.num 1 73), fdV (.num 3 74), fdV (.dat 75)]) (List.mem_of_getElem? (i := 6) rfl), Nat.le_trans (Nat.le_add_right _ 7) hn7⟩
    | 8, _, _, hc => cases (show some ([68, 97, 116, 97], [.num 0 59, .num 1 60, .num 2 61, .dat 64]) = some c from hc); exact ⟨hT (n8, #[fdV (.num 0 59), fdV (.num 1 60), fdV (.num 2 61), fdV (.dat 64)]) (List.mem_of_getElem? (i := 7) rfl), Nat.le_trans (Nat.le_add_right _ 7) hn8⟩
    | 9, _, _, hc => cases (show some ([90, 101, 114, 111], [.num 0 59, .num 1 60, .num 2 61]) = some c from hc); exact ⟨hT (n9, #[fdV (.num 0 59), fdV (.num 1 60), fdV (.num 2 61)]) (List.mem_of_getElem? (i := 8) rfl), Nat.le_trans (Nat.le_add_right _ 7) hn9⟩
    | 10, _, _, hc => cases (show some ([82, 101, 99, 118, 65, 99, 107], [.num 0 59, .num 1 60]) = some c from hc); exact ⟨hT (n10, #[fdV (.num 0 59), fdV (.num 1 60)]) (List.mem_of_getElem? (i := 9) rfl), Nat.le_trans (Nat.le_add_right _ 7) hn10⟩
    | 11, _, _, hc => cases (show some ([87, 114, 105, 116, 101, 65, 99, 107], [.num 0 59, .num 1 60]) = some c from hc); exact ⟨hT (n11, #[fdV (.num 0 59), fdV (.num 1 60)]) (List.mem_of_getElem? (i := 10) rfl), Nat.le_trans (Nat.le_add_right _ 7) hn11⟩
    | 12, _, _, hc => cases (show some ([78, 101, 103, 65, 99, 107], [.num 0 59, .num 1 60, .num 4 76]) = some c from hc); exact ⟨hT (n12, #[fdV (.num 0 59), fdV (.num 1 60), fdV (.num 4 76)]) (List.mem_of_getElem? (i := 11) rfl), Nat.le_trans (Nat.le_add_right _ 7) hn12⟩
    | 13, _, _, hc => cases (show some ([66, 97, 114, 114, 105, 101, 114], [.num 2 61, .num 3 62]) = some c from hc); exact ⟨hT (n13, #[fdV (.num 2 61), fdV (.num 3 62)]) (List.mem_of_getElem? (i := 12) rfl), Nat.le_trans (Nat.le_add_right _ 7) hn13⟩
    | 14, _, _, hc => cases (show some ([66, 97, 114, 114, 105, 101, 114, 65, 99, 107], [.num 2 61, .num 3 62]) = some c from hc); exact ⟨hT (n14, #[fdV (.num 2 61), fdV (.num 3 62)]) (List.mem_of_getElem? (i := 13) rfl), Nat.le_trans (Nat.le_add_right _ 7) hn14⟩
    | 15, _, _, hc => cases (show some ([83, 117, 109, 82, 101, 113, 117, 101, 115, 116], [.num 0 59, .num 1 60, .num 4 77, .sum 78]) = some c from hc); exact ⟨hT (n15, #[fdV (.num 0 59), fdV (.num 1 60), fdV (.num 4 77), fdV (.sum 78)]) (List.mem_of_getElem? (i := 14) rfl), Nat.le_trans (Nat.le_add_right _ 7) hn15⟩
    | 16, _, _, hc => cases (show some ([73, 110, 83, 121, 110, 99], [.num 0 59, .num 1 60]) = some c from hc); exact ⟨hT (n16, #[fdV (.num 0 59), fdV (.num 1 60)]) (List.mem_of_getElem? (i := 15) rfl), Nat.le_trans (Nat.le_add_right _ 7) hn16⟩
    | 17, _, _, hc => cases (show some ([83, 121, 110, 99, 68, 97, 116, 97], [.num 0 59, .num 1 60, .dat 64]) = some c from hc); exact ⟨hT (n17, #[fdV (.num 0 59), fdV (.num 1 60), fdV (.dat 64)]) (List.mem_of_getElem? (i := 16) rfl), Nat.le_trans (Nat.le_add_right _ 7) hn17⟩
    | 18, _, _, hc => cases (show some ([83, 121, 110, 99, 65, 99, 107], [.num 0 59, .num 1 60]) = some c from hc); exact ⟨hT (n18, #[fdV (.num 0 59), fdV (.num 1 60)]) (List.mem_of_getElem? (i := 17) rfl), Nat.le_trans (Nat.le_add_right _ 7) hn18⟩
    | 19, _, _, hc => cases (show some ([83, 121, 110, 99, 68, 111, 110, 101], [.num 3 65]) = some c from hc); exact ⟨hT (n19, #[fdV (.num 3 65)]) (List.mem_of_getElem? (i := 18) rfl), Nat.le_trans (Nat.le_add_right _ 7) hn19⟩
    | 20, _, _, hc => cases (show some ([86, 101, 114, 105, 102, 121, 82, 101, 113, 117, 101, 115, 116], [.num 0 59, .num 1 60, .sum 63]) = some c from hc); exact ⟨hT (n20, #[fdV (.num 0 59), fdV (.num 1 60), fdV (.sum 63)]) (List.mem_of_getElem? (i := 19) rfl), Nat.le_trans (Nat.le_add_right _ 7) hn20⟩
    | 21, _, _, hc => cases (show some ([86, 101, 114, 105, 102, 121, 82, 101, 112, 108, 121], [.num 0 59, .num 1 60, .num 4 77]) = some c from hc); exact ⟨hT (n21, #[fdV (.num 0 59), fdV (.num 1 60), fdV (.num 4 77)]) (List.mem_of_getElem? (i := 20) rfl), Nat.le_trans (Nat.le_add_right _ 7) hn21⟩
    | 22, _, _, hc => cases (show some ([86, 101, 114, 105, 102, 121, 68, 111, 110, 101], [.num 3 65]) = some c from hc); exact ⟨hT (n22, #[fdV (.num 3 65)]) (List.mem_of_getElem? (i := 21) rfl), Nat.le_trans (Nat.le_add_right _ 7) hn22⟩
    | 23, _, _, hc => cases (show some ([71, 101, 110, 115], [.gens]) = some c from hc); exact ⟨hT (n23, #[fdV (.gens)]) (List.mem_of_getElem? (i := 22) rfl), Nat.le_trans (Nat.le_add_right _ 7) hn23⟩
    | 24, _, _, hc => cases (show some ([82, 101, 97, 100, 82, 101, 113, 117, 101, 115, 116], [.num 0 59, .num 1 60]) = some c from hc); exact ⟨hT (n24, #[fdV (.num 0 59), fdV (.num 1 60)]) (List.mem_of_getElem? (i := 23) rfl), Nat.le_trans (Nat.le_add_right _ 7) hn24⟩
    | 25, _, _, hc => cases (show some ([82, 101, 97, 100, 82, 101, 112, 108, 121], [.num 0 59, .num 1 60, .num 4 79, .dat 80]) = some c from hc); exact ⟨hT (n25, #[fdV (.num 0 59), fdV (.num 1 60), fdV (.num 4 79), fdV (.dat 80)]) (List.mem_of_getElem? (i := 24) rfl), Nat.le_trans (Nat.le_add_right _ 7) hn25⟩

end Go.Proofs.YtbgfoobcpacfeaaDoor

/- A command of the table, by its number; the name. -/
namespace Go.Proofs.YtbgfoobcpacfeaaDoor
open Go.RowKit
set_option maxRecDepth 100000
set_option linter.unusedVariables false
set_option linter.unusedSimpArgs false

/-- A command of the table as a value. -/
abbrev cmdE (n : Nat → Nat) (i : Nat) (c : List UInt8 × List Fd) : Value := .agg #[.string ⟨c.1.toArray⟩, .slice (some ⟨n i, 0, none⟩) c.2.length c.2.length]
theorem cmd_some {i : Int} (h1 : 1 ≤ i) (h2 : i < 26) : ∃ k c, i = (k : Nat) ∧ 1 ≤ k ∧ cmdTab[k]? = some c := by
  have hk : i.toNat < cmdTab.length := by show i.toNat < 26; omega
  exact ⟨i.toNat, cmdTab[i.toNat], by omega, by omega, List.getElem?_eq_getElem hk⟩
theorem cmd_index (n : Nat → Nat) (w : World) (i : Nat) (c : List UInt8 × List Fd) (hi : 1 ≤ i) (hc : cmdTab[i]? = some c) :
    (Instr.index 75 (.agg (cmdCells n).toArray) (.int .i64 i)).run Tryd.prog w = .ok (cmdE n i c) w := by
  have hi26 : i < 26 := (List.getElem?_eq_some_iff.1 hc).1
  obtain ⟨s, fs⟩ := c
  have h : (Instr.index 75 (.agg (cmdCells n).toArray) (.int .i64 i)).run Tryd.prog w = .ok (cmdE n i (cmdTab.getD i ([], []))) w := by
    rcases (by omega : i = 1 ∨ i = 2 ∨ i = 3 ∨ i = 4 ∨ i = 5 ∨ i = 6 ∨ i = 7 ∨ i = 8 ∨ i = 9 ∨ i = 10 ∨ i = 11 ∨ i = 12 ∨ i = 13 ∨ i = 14 ∨ i = 15 ∨ i = 16 ∨ i = 17 ∨ i = 18 ∨ i = 19 ∨ i = 20 ∨ i = 21 ∨ i = 22 ∨ i = 23 ∨ i = 24 ∨ i = 25) with rfl | rfl | rfl | rfl | rfl | rfl | rfl | rfl | rfl | rfl | rfl | rfl | rfl | rfl | rfl | rfl | rfl | rfl | rfl | rfl | rfl | rfl | rfl | rfl | rfl
    all_goals kernel_rfl
  rw [h, List.getD_eq_getElem?_getD, hc]
  rfl

theorem cmd_f0 (w : World) (a b : Value) : (Instr.field 74 (.agg #[a, b]) 0).run Tryd.prog w = .ok a w := by kernel_rfl
theorem cmd_f1 (w : World) (a b : Value) : (Instr.field 74 (.agg #[a, b]) 1).run Tryd.prog w = .ok b w := by kernel_rfl

/-- Is the command's number known? -/
def knownB (c : Int) : Bool := decide (1 ≤ c) && decide (c < 26)
set_option maxHeartbeats 4000000 in
theorem known_calls (w : World) (c : Int) : Pur Tryd.prog 39 #[.int .i64 c] w (.bool (knownB c)) := by
  unfold Pur knownB
  cases h1 : decide (1 ≤ c) <;> cases h2 : decide (c < 26)
  all_goals (go_enter Tryd.func39, Tryd.ntmps39; go_wp2; all_goals go_ret; all_goals exact ⟨rfl, (by first | exact Below.refl _ _ | exact below_alloc1 _ _ | exact below_alloc2 _ _ _ | exact below_alloc3 _ _ _ _ | (repeat' (first | assumption | exact Below.refl _ _ | exact below_alloc1 _ _ | exact below_alloc2 _ _ _ | exact below_alloc3 _ _ _ _ | (refine Below.drew ?_) | (refine below_wb ?_ ?_) | (refine Below.alloc ?_ ?_ _) | omega | (simp; done) | (simp; omega))))⟩)

set_option maxHeartbeats 4000000 in
theorem name_calls (w : World) (c : Int) : Calls Tryd.prog 15 #[.int .i64 c] w fun e w' => e = .returned (.tuple (if knownB c then #[.string ⟨(cmdTab[c.toNat]?.getD ([], [])).1.toArray⟩, .int .i64 0] else #[.string ⟨#[]⟩, .int .i64 74])) ∧ Below w.heap.size w w' := by
  cases hk : knownB c
  · go_enter Tryd.func15, Tryd.ntmps15
    go_wp2_with fail
    refine (known_calls w c).out.mono ?_
    rintro e w1 ⟨rfl, hb⟩
    rw [hk]
    go_wp2_with fail
    go_ret2
    exact ⟨rfl, hb⟩
  · obtain ⟨h1, h2⟩ : 1 ≤ c ∧ c < 26 := by simpa [knownB] using hk
    obtain ⟨k, x, rfl, hk1, hx⟩ := cmd_some h1 h2
    have Hx := Lib.hid hx
    go_enter Tryd.func15, Tryd.ntmps15
    go_wp2_with fail
    refine (known_calls w _).out.mono ?_
    rintro e w1 ⟨rfl, hb⟩
    rw [hk]
    go_wp2_with fail
    refine (commands_calls w1).mono ?_
    rintro e w2 ⟨n, rfl, -, hb2⟩
    have hix : ∀ w, (Instr.index 75 (.agg (cmdCells n).toArray) (.int .i64 k)).run Tryd.prog w = .ok (.agg #[.string ⟨x.1.toArray⟩, .slice (some ⟨n k, 0, none⟩) x.2.length x.2.length]) w := fun w => cmd_index n w k x hk1 hx
    have hf0 := cmd_f0
    generalize (cmdCells n).toArray = cc at *
    clear hx
    go_wp2_with fail
    go_ret2
    refine ⟨?_, hb.trans (hb2.mono hb.size)⟩
    show _ = Ending.returned (Value.tuple #[.string ⟨(cmdTab[k]?.getD ([], [])).1.toArray⟩, .int .i64 0])
    rw [Hx.out]
    rfl
end Go.Proofs.YtbgfoobcpacfeaaDoor

/- Packets: plain functions: what their bytes are, what bytes are read as. -/
namespace Go.Proofs.YtbgfoobcpacfeaaDoor
set_option linter.unusedVariables false
namespace Wi
/-- A packet. -/
structure Pk where
  cmd : Int
  id : Nat
  block : Nat
  epoch : Nat
  count : Nat
  flags : Nat
  g1 : Nat
  g2 : Nat
  g3 : Nat
  g4 : Nat
  sum : List UInt8
  data : List UInt8

structure Pk.Ok (p : Pk) : Prop where
  id : p.id < 4294967296
  block : p.block < 4294967296
  epoch : p.epoch < 4294967296
  count : p.count < 4294967296
  flags : p.flags < 4294967296
  g1 : p.g1 < 18446744073709551616
  g2 : p.g2 < 18446744073709551616
  g3 : p.g3 < 18446744073709551616
  g4 : p.g4 < 18446744073709551616
  sum : p.sum.length = 32
  data : p.data.length ≤ 140737488351232
def zeros : List UInt8 := List.replicate 32 0
def Pk.zero (c : Int) : Pk := ⟨c, 0, 0, 0, 0, 0, 0, 0, 0, 0, zeros, []⟩
theorem Pk.zero_ok (c : Int) : (Pk.zero c).Ok := by
  constructor <;> first | (show 0 < _; decide) | rfl | exact Nat.zero_le _
/-- The number at a place. -/
def Pk.num (p : Pk) (k : Int) : Nat := if k = 0 then p.id else if k = 1 then p.block else if k = 2 then p.epoch else if k = 3 then p.count else p.flags
def Pk.setNum (p : Pk) (k : Int) (v : Nat) : Pk :=
  if k = 0 then { p with id := v } else if k = 1 then { p with block := v } else if k = 2 then { p with epoch := v } else if k = 3 then { p with count := v } else { p with flags := v }
theorem Pk.Ok.num {p : Pk} (h : p.Ok) (k : Int) : p.num k < 4294967296 := by
  unfold Pk.num
  repeat' split
  · exact h.id
  · exact h.block
  · exact h.epoch
  · exact h.count
  · exact h.flags
theorem Pk.Ok.setNum {p : Pk} (h : p.Ok) (k : Int) {v : Nat} (hv : v < 4294967296) : (p.setNum k v).Ok := by
  obtain ⟨a, b, c, d, e, f, g, i, j, k', l⟩ := h
  unfold Pk.setNum
  repeat' split
  all_goals constructor <;> assumption

/-- What the functions of the table allow, by their numbers. -/
def spansOf (f : FuncId) (p : Pk) : List (Nat × Nat) :=
  if f = 59 then [(1, 2147483647)]
  else if f = 60 then [(0, 4095)]
  else if f = 61 then [(1, 4294967295)]
  else if f = 62 then [(1, 64)]
  else if f = 64 then [(1, 1024)]
  else if f = 65 then [(0, 4294967295)]
  else if f = 66 then [(p.id, 4294967295)]
  else if f = 67 then [(16, 16)]
  else if f = 68 then [(1, 4096)]
  else if f = 69 then [(128, 128), (256, 256), (512, 512), (1024, 1024)]
  else if f = 70 then [(0, 4096)]
  else if f = 71 then [(0, 31)]
  else if f = 72 then [(0, 1), (4, 5), (8, 9)]
  else if f = 73 then [(0, 63)]
  else if f = 74 then [(1, min 8 ((4294967360 - p.block) % 4294967296))]
  else if f = 75 then [(1, 256)]
  else if f = 76 then [(1, 255)]
  else if f = 77 then [(0, 1)]
  else if f = 79 then [(0, 255)]
  else if f = 80 then (if p.flags = 0 then [(1, 1024)] else [(0, 0)])
  else []
/-- The functions that tell spans. -/
def mays : List FuncId := [59, 60, 61, 62, 64, 65, 66, 67, 68, 69, 70, 71,
  72, 73, 74, 75, 76, 77, 79, 80]
def zeroOf (f : FuncId) (p : Pk) : Bool := if f = 78 then p.flags == 1 else false
def meets (l : List (Nat × Nat)) (lo hi : Nat) : Bool := l.any fun s => decide (s.1 ≤ hi) && decide (lo ≤ s.2)
/-- Is the field as the table says? -/
def okF (p : Pk) : Fd → Bool
  | .num k f => meets (spansOf f p) (p.num k) (p.num k)
  | .gens => true
  | .sum f => !zeroOf f p || decide (p.sum = zeros)
  | .dat f => meets (spansOf f p) p.data.length p.data.length
/-- The field's bytes. -/
def wrF (p : Pk) : Fd → List UInt8
  | .num k _ => be 4 (p.num k)
  | .gens => be 8 p.g1 ++ be 8 p.g2 ++ be 8 p.g3 ++ be 8 p.g4
  | .sum _ => p.sum
  | .dat _ => be 2 p.data.length ++ p.data
/-- The packet without the field. -/
def clearF (p : Pk) : Fd → Pk
  | .num k _ => p.setNum k 0
  | .gens => { p with g1 := 0, g2 := 0, g3 := 0, g4 := 0 }
  | .sum _ => { p with sum := zeros }
  | .dat _ => { p with data := [] }
theorem clearF_ok {p : Pk} (h : p.Ok) (x : Fd) : (clearF p x).Ok := by
  cases x with
  | num k f => exact h.setNum k (by decide)
  | gens => exact ⟨h.id, h.block, h.epoch, h.count, h.flags, by show 0 < _; decide, by show 0 < _; decide, by show 0 < _; decide, by show 0 < _; decide, h.sum, h.data⟩
  | sum f => exact ⟨h.id, h.block, h.epoch, h.count, h.flags, h.g1, h.g2, h.g3, h.g4, rfl, h.data⟩
  | dat f => exact ⟨h.id, h.block, h.epoch, h.count, h.flags, h.g1, h.g2, h.g3, h.g4, h.sum, by show 0 ≤ _; decide⟩
def Fd.isDat : Fd → Bool
  | .dat _ => true
  | _ => false
def holdsD (fs : List Fd) : Bool := fs.any Fd.isDat
/-- Nothing is left. -/
def plain (q : Pk) : Bool := decide (q.id = 0 ∧ q.block = 0 ∧ q.epoch = 0 ∧ q.count = 0 ∧ q.flags = 0) && decide (q.g1 = 0 ∧ q.g2 = 0 ∧ q.g3 = 0 ∧ q.g4 = 0) && decide (q.sum = zeros)
def fieldsOf (c : Int) : List Fd := (cmdTab[c.toNat]?.getD ([], [])).2
def packErr (p : Pk) : Int :=
  if knownB p.cmd = false then 74
  else if (fieldsOf p.cmd).all (okF p) = false then 75
  else if plain ((fieldsOf p.cmd).foldl clearF p) = false then 75
  else if 0 < p.data.length ∧ holdsD (fieldsOf p.cmd) = false then 75 else 0
def cmdByte (c : Int) : UInt8 := UInt8.ofNat (c % 256).toNat
def packed (p : Pk) : List UInt8 := cmdByte p.cmd :: (fieldsOf p.cmd).flatMap (wrF p)
def packOut (p : Pk) : List UInt8 := if packErr p = 0 then packed p else []

/-- What a part of the bytes is read as: a value and what is behind; or what begins with the byte that cannot stand there. -/
inductive Res (α : Type) where
  | ok (x : α) (rest : List UInt8)
  | bad (rest : List UInt8)
def rdNum (s : List (Nat × Nat)) : Nat → Nat → List UInt8 → Res Nat
  | 0, v, l => .ok v l
  | _ + 1, _, [] => .bad []
  | k + 1, v, c :: l => if meets s ((v * 256 + c.toNat) * 256 ^ k) ((v * 256 + c.toNat + 1) * 256 ^ k - 1) then rdNum s k (v * 256 + c.toNat) l else .bad (c :: l)
def rdSum (zero : Bool) : Nat → List UInt8 → Res (List UInt8)
  | 0, l => .ok [] l
  | _ + 1, [] => .bad []
  | k + 1, c :: l => if zero && c != 0 then .bad (c :: l) else match rdSum zero k l with
    | .ok s r => .ok (c :: s) r
    | .bad r => .bad r
def rdF (p : Pk) : Fd → List UInt8 → Res Pk
  | .num k f, l => match rdNum (spansOf f p) 4 0 l with
    | .ok v r => .ok (p.setNum k v) r
    | .bad r => .bad r
  | .gens, l => if l.length < 32 then .bad [] else .ok { p with g1 := unbe (l.take 8), g2 := unbe ((l.drop 8).take 8), g3 := unbe ((l.drop 16).take 8), g4 := unbe ((l.drop 24).take 8) } (l.drop 32)
  | .sum f, l => match rdSum (zeroOf f p) 32 l with
    | .ok s r => .ok { p with sum := s } r
    | .bad r => .bad r
  | .dat f, l => match rdNum (spansOf f p) 2 0 l with
    | .ok n r => if r.length < n then .bad [] else .ok { p with data := r.take n } (r.drop n)
    | .bad r => .bad r
def rdAll : List Fd → Pk → List UInt8 → Res Pk
  | [], p, l => .ok p l
  | x :: fs, p, l => match rdF p x l with
    | .ok q r => rdAll fs q r
    | .bad r => .bad r
/-- The packet, the place, the error. -/
def unpack (b : List UInt8) : Pk × Nat × Int :=
  match b with
  | [] => (Pk.zero 0, 0, 71)
  | c :: l => if knownB c.toNat = false then (Pk.zero 0, 0, 74) else match rdAll (fieldsOf c.toNat) (Pk.zero c.toNat) l with
    | .ok p [] => (p, 0, 0)
    | .ok _ (d :: r) => (Pk.zero 0, (c :: l).length - (d :: r).length, 76)
    | .bad [] => (Pk.zero 0, (c :: l).length, 71)
    | .bad (d :: r) => (Pk.zero 0, (c :: l).length - (d :: r).length, 75)
end Wi
end Go.Proofs.YtbgfoobcpacfeaaDoor

/- Laid variables that are arrays of literals: their cells. -/
namespace Go.Proofs.YtbgfoobcpacfeaaDoor
open Go.RowKit
set_option maxRecDepth 100000
set_option linter.unusedVariables false
set_option linter.unusedSimpArgs false

section
variable {H : Type} {enc : TypeId × Value → H} {P : Program} {w : World} {base : Nat} {sp : Nat → Bool} {held : Bool} {fuel : Nat}
theorem lit_cell {e : TypeId} {c : Value} {x : DataW H × List MemPlace} {l : Lit} (he : (∃ k, P.underlying e = some (.int k)) ∨ P.underlying e = some .string)
    (h : DataW.trod enc P w base sp held fuel e [c] = some x) (hx : x.1 = .lit l) : c = l.value := by
  rcases he with ⟨k, he⟩ | he
  · obtain ⟨n, hc, hxx, _⟩ := DataW.trod_int he h
    simp only [List.cons.injEq, and_true] at hc
    subst hc
    rw [hxx] at hx
    cases hx
    rfl
  · obtain ⟨s, hc, hxx, _⟩ := DataW.trod_string he h
    simp only [List.cons.injEq, and_true] at hc
    subst hc
    rw [hxx] at hx
    cases hx
    rfl
theorem lits_cells {t e : TypeId} {n : Nat} {cs : List Value} {x : DataW H × List MemPlace} (hu : P.underlying t = some (.array n e)) (hc : P.cellsOf e = 1) (hct : P.cellsOf t = n)
    (he : (∃ k, P.underlying e = some (.int k)) ∨ P.underlying e = some .string) (h : DataW.trod enc P w base sp held fuel t cs = some x) (ls : List Lit) (hx : x.1 = .agg (ls.map .lit)) :
    cs = ls.map Lit.value := by
  obtain ⟨xs, m, rfl, rfl, hl, hn, hel⟩ := DataW.trod_array hu h
  have hxs : xs.map (·.1) = ls.map .lit := by simpa using hx
  have hlen : ls.length = n := by have := congrArg List.length hxs; simp at this; omega
  apply List.ext_getElem?
  intro i
  by_cases hi : i < n
  · have h1 := hel i hi
    rw [hc, Nat.mul_one] at h1
    have hci : i < cs.length := by omega
    have e1 : (cs.drop i).take 1 = [cs[i]] := by rw [List.drop_eq_getElem_cons hci]; rfl
    rw [e1, List.getElem?_eq_getElem (by omega)] at h1
    have h2 : xs[i].1 = .lit ls[i] := by
      have := congrArg (fun l => l[i]?) hxs
      simpa [List.getElem?_map, List.getElem?_eq_getElem (show i < xs.length by omega), List.getElem?_eq_getElem (show i < ls.length by omega)] using this
    rw [List.getElem?_eq_getElem hci, List.getElem?_map, List.getElem?_eq_getElem (show i < ls.length by omega), lit_cell he h1 h2]
    rfl
  · rw [List.getElem?_eq_none (by omega), List.getElem?_eq_none (by simp; omega)]
/-- A laid variable's cells. -/
theorem laid_var {n : String} {d : DataW Unit} {r : List (String × DataW Unit)} {ps : List MemPlace} (h : DataW.LaidVars P w ((n, d) :: r) ps) {g : Nat} {t e : TypeId} {m : Nat} (ls : List Lit) (hg : P.globalNamed n = some g)
    (ht : (P.globals[g]?).map (·.type) = some t) (hu : P.underlying t = some (.array m e)) (hc : P.cellsOf e = 1) (hct : P.cellsOf t = m) (he : (∃ k, P.underlying e = some (.int k)) ∨ P.underlying e = some .string) (hd : d = .agg (ls.map .lit)) :
    (∀ i l, ls[i]? = some l → w.cell? ⟨g, i, none⟩ = some l.value) ∧ ∃ ps', DataW.LaidVars P w r ps' := by
  obtain ⟨g', t', cs, fuel, p, q, hg', ht', hv, htr, hr, _⟩ := h
  obtain rfl : g = g' := Option.some.inj (hg.symm.trans hg')
  obtain rfl : t = t' := Option.some.inj (ht.symm.trans ht')
  have hcs := lits_cells hu hc hct he htr ls hd
  refine ⟨fun i l hl => ?_, _, hr⟩
  rw [World.var?_cell hg hv i, ← Array.getElem?_toList, hcs, List.getElem?_map, hl]
  rfl
theorem laid_of {laid : List (String × DataW Unit)} (hp : (laid.all fun x => x.2.handleName?.isNone) = true) (h : laidMetH P laid w) : ∃ ps, DataW.LaidVars P w laid ps := by
  rw [MakeChecks.laidMetH_plain _ _ _ hp] at h
  obtain ⟨ps, h, _⟩ := h
  exact ⟨ps, h⟩
end
/-- A row of cells that lies in the world, and what is behind. -/
def Lies (g : Nat) (vs : List Value) (w : World) : Prop := g < w.heap.size ∧ ∀ i v, vs[i]? = some v → w.cell? ⟨g, i, none⟩ = some v
theorem Lies.below {g : Nat} {vs : List Value} {w w' : World} (h : Lies g vs w) (hb : Below w.heap.size w w') : Lies g vs w' :=
  ⟨Nat.lt_of_lt_of_le h.1 hb.size, fun i v hv => ((bcell hb).1 g i h.1).trans (h.2 i v hv)⟩
theorem Lies.belowB {g B : Nat} {vs : List Value} {w w' : World} (h : Lies g vs w) (hg : g < B) (hb : Below B w w') : Lies g vs w' :=
  ⟨Nat.lt_of_lt_of_le h.1 hb.size, fun i v hv => ((bcellB hb).1 g i hg).trans (h.2 i v hv)⟩
/-- The world holds the sizes of blocks. -/
def Szs (w : World) : Prop := Lies 3 [.int .u32 128, .int .u32 256, .int .u32 512, .int .u32 1024] w
theorem lies_of {g : Nat} {ls : List Lit} {w : World} (h0 : 0 < ls.length) (h : ∀ i l, ls[i]? = some l → w.cell? ⟨g, i, none⟩ = some l.value) : Lies g (ls.map Lit.value) w := by
  refine ⟨cell_lt (h 0 _ (List.getElem?_eq_getElem h0)), fun i v hv => ?_⟩
  rw [List.getElem?_map] at hv
  cases e : ls[i]? with
  | none => rw [e] at hv; cases hv
  | some l => rw [e] at hv; cases hv; exact h i l e
theorem laid_szs {r : List (String × DataW Unit)} {ps : List MemPlace} {w : World} (h : DataW.LaidVars Tryd.prog w (("replica/wire.blockSizes", Rows.laid_replica_wire_blockSizes) :: r) ps) : Szs w ∧ ∃ ps', DataW.LaidVars Tryd.prog w r ps' := by
  have := laid_var h (g := 3) [.int .u32 128, .int .u32 256, .int .u32 512, .int .u32 1024] (by kernel_rfl) (t := 162) (by kernel_rfl) (e := 27) (m := 4) (by kernel_rfl) (by kernel_rfl) (by kernel_rfl) (.inl ⟨.u32, by kernel_rfl⟩) rfl
  exact ⟨lies_of (by decide) this.1, this.2⟩
end Go.Proofs.YtbgfoobcpacfeaaDoor

/- Bytes in memory: a slice that reads as a list of bytes (RB); a row of the call's own that holds one (OB); append, slicing. -/
namespace Go.Proofs.YtbgfoobcpacfeaaDoor
open Go.RowKit
set_option linter.unusedVariables false
set_option linter.unusedSimpArgs false

/-- A byte as a value. -/
abbrev bv (b : UInt8) : Value := .int .u8 (b.toNat : Int)

theorem bv_of_int (x : Nat) : bv (UInt8.ofNat x) = .int .u8 ((x : Int) % 256) := by
  show Value.int .u8 ((UInt8.ofNat x).toNat : Int) = _
  rw [UInt8.toNat_ofNat']; rfl
/-- v is a slice that reads as l. -/
def RB (w : World) (v : Value) (l : List UInt8) : Prop :=
  ∃ p c, v = .slice p l.length c ∧ l.length ≤ c ∧ c ≤ maxLen ∧ l.length ≤ 140737488355328 ∧
    ∀ i b, l[i]? = some b → ∃ g o, p = some ⟨g, o, none⟩ ∧ g < w.heap.size ∧ w.cell? ⟨g, o + i, none⟩ = some (bv b)
/-- v is a slice of a block of the call's own (from B on) that holds l at its head. -/
def OB (B : Nat) (w : World) (v : Value) (l : List UInt8) : Prop := w.ownsRow B 5 1 v l.length (l.map bv) ∧ l.length ≤ 140737488355328

section
variable {w w' : World} {B : Nat} {v : Value} {l m : List UInt8}
theorem RB.nil_ (w : World) : RB w (.slice none 0 0) [] := ⟨none, 0, rfl, Nat.le_refl _, Nat.zero_le _, Nat.zero_le _, fun i b h => by simp at h⟩
theorem RB.keep (h : RB w v l) (hs : w.heap.size ≤ w'.heap.size) (hk : l ≠ [] → ∀ g o, v.ownBlock = some g → g < w.heap.size → w'.cell? ⟨g, o, none⟩ = w.cell? ⟨g, o, none⟩) : RB w' v l := by
  obtain ⟨p, c, rfl, h1, h2, h3, hr⟩ := h
  refine ⟨p, c, rfl, h1, h2, h3, fun i b hb => ?_⟩
  obtain ⟨g, o, rfl, hg, hc⟩ := hr i b hb
  exact ⟨g, o, rfl, by omega, (hk (by intro e; subst e; simp at hb) g _ rfl hg).trans hc⟩
theorem RB.below (h : RB w v l) (hb : Below w.heap.size w w') : RB w' v l := h.keep hb.size fun _ g o _ hg => (bcell hb).1 g o hg
theorem RB.belowB (h : RB w v l) (hb : Below B w w') (hB : l ≠ [] → ∀ g, v.ownBlock = some g → g < B) : RB w' v l := h.keep hb.size fun hl g o e hg => (bcellB hb).1 g o (hB hl g e)
theorem RB.grown (h : RB w v l) {r : Option Nat} (hg : w.grownBy w' r) (hne : l ≠ [] → ∀ g, v.ownBlock = some g → r ≠ some g) : RB w' v l :=
  h.keep hg.size fun hl g o e hlt => World.cell?_of_block (hg.block g hlt (fun e' => hne hl g e e'.symm))
theorem RB.form (h : RB w v l) : ∃ p c, v = .slice p l.length c := by obtain ⟨p, c, e, _⟩ := h; exact ⟨p, c, e⟩
theorem RB.len (h : RB w v l) : l.length ≤ 140737488355328 := by obtain ⟨p, c, rfl, _, _, h3, _⟩ := h; exact h3
theorem RB.block (h : RB w v l) (hl : l ≠ []) : ∀ g, v.ownBlock = some g → g < w.heap.size := by
  obtain ⟨p, c, rfl, h1, h2, h3, hr⟩ := h
  intro g hg
  obtain ⟨b, r, rfl⟩ : ∃ b r, l = b :: r := by cases l with | nil => exact absurd rfl hl | cons b r => exact ⟨b, r, rfl⟩
  obtain ⟨g', o, rfl, hlt, _⟩ := hr 0 b rfl
  simp only [Value.ownBlock, Option.some.injEq] at hg
  omega

theorem OB.nil_ (B : Nat) (w : World) : OB B w (.slice none 0 0) [] := ⟨World.ownsRow_nil w B 5 1, Nat.zero_le _⟩
theorem OB.lt (h : OB B w v l) : ∀ k, v.ownBlock = some k → B ≤ k ∧ k < w.heap.size := h.1.lt
theorem OB.kept (h : OB B w v l) {r : Option Nat} (hg : w.grownBy w' r) (hne : ∀ g, v.ownBlock = some g → r ≠ some g) : OB B w' v l := by
  refine ⟨h.1.kept hg ?_, h.2⟩
  cases e : v.ownBlock with
  | none => exact .inl rfl
  | some g => exact .inr fun e' => hne g e e'.symm
theorem below_grown {r : Option Nat} (hb : Below w.heap.size w w') : w.grownBy w' r := ⟨hb.os, hb.tape, hb.output, hb.size, fun k hk _ => hb.block k hk⟩
theorem OB.below (h : OB B w v l) (hb : Below w.heap.size w w') : OB B w' v l := h.kept (r := none) (below_grown hb) (fun g _ e => by cases e)
theorem OB.more (h : OB B w v l) {B' : Nat} (hB : B' ≤ B) : OB B' w v l := by
  obtain ⟨⟨h0, h1 | ⟨g, cap, cur, rfl, hb, hg, r⟩⟩, hl⟩ := h
  · exact ⟨⟨h0, .inl h1⟩, hl⟩
  · exact ⟨⟨h0, .inr ⟨g, cap, cur, rfl, by omega, hg, r⟩⟩, hl⟩
theorem OB.rb (h : OB B w v l) : RB w v l := by
  obtain ⟨⟨h0, ⟨rfl, hn⟩ | ⟨g, cap, cur, rfl, hB, hg, hn, hc, hs, ht⟩⟩, hl⟩ := h
  · have : l = [] := List.eq_nil_of_length_eq_zero hn
    subst this
    exact RB.nil_ w
  · refine ⟨_, cap, rfl, hn, hc, hl, fun i b hb => ⟨g, 0, rfl, heap_lt hg, ?_⟩⟩
    have hi : i < l.length := (List.getElem?_eq_some_iff.1 hb).1
    have h1 : (cur.toList.take (l.length * 1))[i]? = some (bv b) := by rw [ht]; simp [hb]
    rw [List.getElem?_take, if_pos (by omega)] at h1
    simp only [World.cell?, hg]
    simpa using h1
theorem OB.form (h : OB B w v l) (hl : l ≠ []) : ∃ g cap, v = .slice (some ⟨g, 0, none⟩) l.length cap ∧ B ≤ g ∧ g < w.heap.size ∧ l.length ≤ cap ∧ cap ≤ maxLen ∧
    (∀ i b, l[i]? = some b → w.cell? ⟨g, i, none⟩ = some (bv b)) ∧ ∀ i, w.frozen? ⟨g, i, none⟩ = false := by
  have hr := h.rb
  obtain ⟨⟨h0, ⟨rfl, hn⟩ | ⟨g, cap, cur, rfl, hB, hg, hn, hc, hs, ht⟩⟩, hm⟩ := h
  · exact absurd (List.eq_nil_of_length_eq_zero hn) hl
  · refine ⟨g, cap, rfl, hB, heap_lt hg, hn, hc, fun i b hb => ?_, fun i => by simp [World.frozen?, hg]⟩
    obtain ⟨p, c, e, _, _, _, hcell⟩ := hr
    obtain ⟨g', o, e1, _, hx⟩ := hcell i b hb
    injection e with e2
    subst e2
    injection e1 with e1
    injection e1 with e3 e4
    subst e3 e4
    simpa using hx
/-- A part of it. -/
theorem RB.sub {g o c : Nat} (h : RB w (.slice (some ⟨g, o, none⟩) l.length c) l) (lo n c' : Nat) (hn : lo + n ≤ l.length) (hc : n ≤ c') (hm : c' ≤ maxLen) :
    RB w (.slice (some ⟨g, o + lo, none⟩) n c') ((l.drop lo).take n) := by
  obtain ⟨p, c1, e, h1, h2, h3, hr⟩ := h
  simp only [Value.slice.injEq] at e
  obtain ⟨e1, _, _⟩ := e
  subst e1
  have hl : ((l.drop lo).take n).length = n := by rw [List.length_take, List.length_drop]; omega
  refine ⟨_, c', by rw [hl], by rw [hl]; exact hc, hm, by rw [hl]; omega, fun i b hb => ?_⟩
  have hi : i < n := by have := (List.getElem?_eq_some_iff.1 hb).1; omega
  rw [List.getElem?_take, if_pos hi, List.getElem?_drop] at hb
  obtain ⟨g', o', e, hg, hcell⟩ := hr _ b hb
  simp only [Option.some.injEq, Addr.mk.injEq, and_true] at e
  obtain ⟨rfl, rfl⟩ := e
  exact ⟨g, o + lo, rfl, hg, by rw [Nat.add_assoc]; exact hcell⟩
theorem RB.front {g o c : Nat} (h : RB w (.slice (some ⟨g, o, none⟩) l.length c) l) (n c' : Nat) (hn : n ≤ l.length) (hc : n ≤ c') (hm : c' ≤ maxLen) :
    RB w (.slice (some ⟨g, o, none⟩) n c') (l.take n) := by
  have := h.sub 0 n c' (by omega) hc hm
  simpa using this
theorem RB.back {g o c : Nat} (h : RB w (.slice (some ⟨g, o, none⟩) l.length c) l) (lo c' : Nat) (hn : lo ≤ l.length) (hc : l.length - lo ≤ c') (hm : c' ≤ maxLen) :
    RB w (.slice (some ⟨g, o + lo, none⟩) (l.length - lo) c') (l.drop lo) := by
  have := h.sub lo (l.length - lo) c' (by omega) hc hm
  rwa [List.take_of_length_le (by rw [List.length_drop]; exact Nat.le_refl _)] at this
theorem cell_of_rb {g o n c : Nat} (h : RB w (.slice (some ⟨g, o, none⟩) n c) l) (i : Nat) (b : UInt8) (hb : l[i]? = some b) : w.cell? ⟨g, o + i, none⟩ = some (bv b) := by
  obtain ⟨p1, c1, e, h1, h2, h3, hr⟩ := h
  simp only [Value.slice.injEq] at e
  obtain ⟨e1, _, _⟩ := e
  subst e1
  obtain ⟨g', o', e, _, hc⟩ := hr i b hb
  simp only [Option.some.injEq, Addr.mk.injEq, and_true] at e
  obtain ⟨rfl, rfl⟩ := e
  exact hc
theorem RB.empty (w : World) (p : Option Addr) (c : Nat) (hm : c ≤ maxLen) : RB w (.slice p 0 c) [] := ⟨p, c, rfl, Nat.zero_le _, hm, Nat.zero_le _, fun i b h => by simp at h⟩
theorem RB.addr {p : Option Addr} {n c : Nat} (h : RB w (.slice p n c) l) (hl : l ≠ []) : ∃ g o, p = some ⟨g, o, none⟩ ∧ g < w.heap.size ∧ n = l.length ∧ n ≤ c ∧ c ≤ maxLen := by
  obtain ⟨p1, c1, e, h1, h2, h3, hr⟩ := h
  simp only [Value.slice.injEq] at e
  obtain ⟨rfl, rfl, rfl⟩ := e
  obtain ⟨b, r, rfl⟩ : ∃ b r, l = b :: r := by cases l with | nil => exact absurd rfl hl | cons b r => exact ⟨b, r, rfl⟩
  obtain ⟨g, o, rfl, hg, _⟩ := hr 0 b rfl
  exact ⟨g, o, rfl, hg, rfl, h1, h2⟩
/-- A block that was just laid. -/
theorem OB.new (w : World) (cs : Array Value) (l : List UInt8) (hc : cs = (l.map bv).toArray) (hl : l.length ≤ 140737488355328) (hB : B ≤ w.heap.size) :
    OB B (w.alloc (.cells cs 5)) (.slice (some ⟨w.heap.size, 0, none⟩) l.length l.length) l := by
  subst hc
  refine ⟨?_, hl⟩
  have := World.ownsRow_lit (e := 5) (size := 1) (base := B) w (l.map bv).toArray l.length hB (by simp only [maxLen]; omega) (by simp)
  simpa using this
theorem RB.wb (h : RB w v l) {b : Nat} (hne : l ≠ [] → v.ownBlock ≠ some b) (c : Array Value) (t : TypeId) : RB (w.wb b c t) v l :=
  h.keep (by simp) fun hl g o e _ => World.cell?_of_block (heap_wb_ne (fun e' => hne hl (by rw [e, e'])))
theorem OB.wb (h : OB B w v l) {b : Nat} (hne : v.ownBlock ≠ some b) (c : Array Value) (t : TypeId) : OB B (w.wb b c t) v l := by
  obtain ⟨⟨h0, h1 | ⟨g, cap, cur, rfl, hB, hg, r⟩⟩, hl⟩ := h
  · exact ⟨⟨h0, .inl h1⟩, hl⟩
  · exact ⟨⟨h0, .inr ⟨g, cap, cur, rfl, hB, (heap_wb_ne (fun e' => hne (by rw [e']; rfl))).trans hg, r⟩⟩, hl⟩
theorem OB.at_ (h : OB B w v l) (he : ∀ g, v.ownBlock = some g → w'.heap[g]? = w.heap[g]?) : OB B w' v l := by
  obtain ⟨⟨h0, h1 | ⟨g, cap, cur, rfl, hB, hg, r⟩⟩, hl⟩ := h
  · exact ⟨⟨h0, .inl h1⟩, hl⟩
  · exact ⟨⟨h0, .inr ⟨g, cap, cur, rfl, hB, (he g rfl).trans hg, r⟩⟩, hl⟩
theorem RB.lit (w : World) (cs : Array Value) (l : List UInt8) (n : Nat) (hc : cs = (l.map bv).toArray) (hn : n = l.length) (hl : l.length ≤ 140737488355328) :
    RB (w.alloc (.cells cs 5)) (.slice (some ⟨w.heap.size, 0, none⟩) n n) l := by
  subst hn
  exact (OB.new w cs l hc hl (Nat.le_refl _)).rb
end

theorem by_ti : (Tryd.prog.info? 5).map (fun i => (i.zero, i.size, i.bytes)) = some (some (.int .u8 0), 1, 1) := by kernel_rfl
theorem by_tu : Tryd.prog.underlying 32 = some (.slice 5) := by kernel_rfl
theorem by_info : ∃ i, Tryd.prog.info? 5 = some i ∧ i.zero = some (.int .u8 0) ∧ i.size = 1 ∧ i.bytes = 1 := by
  have h := by_ti
  cases hi : Tryd.prog.info? 5 with
  | none => rw [hi] at h; cases h
  | some i =>
    rw [hi] at h
    simp only [Option.map_some, Option.some.injEq, Prod.mk.injEq] at h
    exact ⟨i, rfl, h⟩

@[go_sem] theorem eql_bytes_nil (w : World) (a : Option Addr) (n c : Nat) : (binOp .eql 32 (.slice a n c) (.slice none 0 0)).run Tryd.prog w = .ok (.bool a.isNone) w := Lib.run_eql_slice_nil w _ _ a n c 0 0 by_tu

set_option maxRecDepth 100000 in
theorem run_append_nothing (w : World) {B : Nat} {v : Value} {l : List UInt8} (h : OB B w v l) (p : Option Addr) (c : Nat) :
    (Builtin.append_ #[32, 32] 32 #[v, .slice p 0 c]).run Tryd.prog w = .ok v w := by
  obtain ⟨i, hi, hz⟩ := by_info
  obtain ⟨⟨h0, ⟨rfl, hn⟩ | ⟨g, cap, cur, rfl, hB, hg, hn, hc, hs, ht⟩⟩, hl⟩ := h
  · cases p <;> simp [Builtin.append_, run_underlying by_tu, sizeOf, typeInfo, hi, Builtin.lenOf, Builtin.firstCells, loadCells, loadCellsFrom]
  · cases p <;> simp [Builtin.append_, run_underlying by_tu, sizeOf, typeInfo, hi, Builtin.lenOf, Builtin.firstCells, loadCells, loadCellsFrom, hn, storeCells]

set_option maxRecDepth 100000 in
/-- append to a row of the call's own. -/
theorem run_append_OB {w : World} {B : Nat} {v x : Value} {l m : List UInt8} (h : OB B w v l) (hr : RB w x m) (hlen : l.length + m.length ≤ 140737488355328) (hB : B ≤ w.heap.size) :
    ∃ v' w', (Builtin.append_ #[32, 32] 32 #[v, x]).run Tryd.prog w = .ok v' w' ∧ OB B w' v' (l ++ m) ∧ w.grownBy w' v.ownBlock ∧ (v'.ownBlock = v.ownBlock ∨ v'.ownBlock = some w.heap.size) := by
  obtain ⟨i, hi, hz⟩ := by_info
  obtain ⟨p, c, rfl, h1, h2, h3, hc⟩ := hr
  by_cases hm : m = []
  · subst hm
    exact ⟨v, w, run_append_nothing w h p c, by simpa using h, World.grownBy.refl w _, .inl rfl⟩
  · obtain ⟨b, r, rfl⟩ : ∃ b r, m = b :: r := by cases m with | nil => exact absurd rfl hm | cons b r => exact ⟨b, r, rfl⟩
    obtain ⟨g, o, rfl, hg, _⟩ := hc 0 b rfl
    obtain ⟨v', w', hrun, ho, hgr, _, hat⟩ := run_append_own_at (P := Tryd.prog) w B 32 32 5 i (.int .u8 0) 1 1 by_tu hi hz.1 hz.2.1 hz.2.2 rfl (by decide) v l.length (l.map bv) h.1 ⟨g, o, none⟩ (b :: r).length c ((b :: r).map bv) (by simp)
      (fun j u hj => by
        rw [List.getElem?_map] at hj
        cases hb : (b :: r)[j]? with
        | none => rw [hb] at hj; cases hj
        | some b' =>
          rw [hb] at hj
          cases hj
          obtain ⟨g', o', e, _, hcell⟩ := hc j b' hb
          injection e with e
          injection e with e1 e2
          subst e1 e2
          rw [add_flat]
          exact hcell)
      (fun u hu => by
        obtain ⟨b', _, rfl⟩ := List.mem_map.1 hu
        rfl) (by simp only [maxLen]; omega) (by omega) hB
    refine ⟨v', w', hrun, ⟨?_, by simpa using hlen⟩, hgr, hat⟩
    rw [List.length_append, List.map_append]
    exact ho

set_option maxRecDepth 100000 in
/-- append at the operation. -/
theorem wpList_append_OB {w : World} {ops : Array Oper} {rest : List Oper} {o : Oper} {a : Act} {Q : Exit → Act → World → Prop} (hgd : o.guard = none) (s x : Operand)
    (ho : o.op = .call { callee := .builtin .append, args := #[s, x], argTypes := #[32, 32] }) (hty : o.type = 32) {B : Nat} {v xv : Value} {l m : List UInt8}
    (hs : a.eval s = v) (hx : a.eval x = xv) (h : OB B w v l) (hr : RB w xv m) (hlen : l.length + m.length ≤ 140737488355328) (hB : B ≤ w.heap.size)
    (hk : ∀ v' w', OB B w' v' (l ++ m) → w.grownBy w' v.ownBlock → (v'.ownBlock = v.ownBlock ∨ v'.ownBlock = some w.heap.size) → wpList Tryd.prog ops Q rest (a.put o.dst v') w') : wpList Tryd.prog ops Q (o :: rest) a w := by
  refine wpList_plain hgd fun K hK => ?_
  obtain ⟨v', w', hrun, h2, h3, h4⟩ := run_append_OB h hr hlen hB
  unfold Oper.wp execOp
  simp only [ho, hty, resolve, invoke, builtin, Sem.run_bind, Sem.run_pure, Result.andThen_ok, List.map_toArray, List.map_cons, List.map_nil, hs, hx, hrun]
  exact hK _ _ (hk v' w' h2 h3 h4)
end Go.Proofs.YtbgfoobcpacfeaaDoor

/- A packet in memory; spans in memory; 'at', 'meet' and what the fields may be. -/
namespace Go.Proofs.YtbgfoobcpacfeaaDoor
open Go.RowKit
set_option maxRecDepth 100000
set_option linter.unusedVariables false
set_option linter.unusedSimpArgs false

/-- The cells of a packet. -/
def pkL (p : Wi.Pk) (v : Value) : List Value :=
  .int .i64 p.cmd :: .int .u32 p.id :: .int .u32 p.block :: .int .u32 p.epoch :: .int .u32 p.count :: .int .u32 p.flags :: .int .u64 p.g1 :: .int .u64 p.g2 :: .int .u64 p.g3 :: .int .u64 p.g4 :: (p.sum.map bv ++ [v])
/-- A packet lies there. -/
def PkAt (w : World) (b : Nat) (p : Wi.Pk) (v : Value) : Prop := w.heap[b]? = some (.cells (pkL p v).toArray 34 (0, 0))
section
variable {w w' : World} {b : Nat} {p : Wi.Pk} {v : Value}
theorem PkAt.lt (h : PkAt w b p v) : b < w.heap.size := heap_lt h
theorem PkAt.below (h : PkAt w b p v) (hb : Below w.heap.size w w') : PkAt w' b p v := blk_below h hb
theorem PkAt.belowB {B : Nat} (h : PkAt w b p v) (hB : b < B) (hb : Below B w w') : PkAt w' b p v := (hb.block b hB).trans h
theorem PkAt.cell (h : PkAt w b p v) (i : Nat) : w.cell? ⟨b, i, none⟩ = (pkL p v)[i]? := by rw [has_cell h]; simp
theorem PkAt.c0 (h : PkAt w b p v) : w.cell? ⟨b, 0, none⟩ = some (.int .i64 p.cmd) := h.cell 0
theorem PkAt.c1 (h : PkAt w b p v) : w.cell? ⟨b, 1, none⟩ = some (.int .u32 p.id) := h.cell 1
theorem PkAt.c2 (h : PkAt w b p v) : w.cell? ⟨b, 2, none⟩ = some (.int .u32 p.block) := h.cell 2
theorem PkAt.c3 (h : PkAt w b p v) : w.cell? ⟨b, 3, none⟩ = some (.int .u32 p.epoch) := h.cell 3
theorem PkAt.c4 (h : PkAt w b p v) : w.cell? ⟨b, 4, none⟩ = some (.int .u32 p.count) := h.cell 4
theorem PkAt.c5 (h : PkAt w b p v) : w.cell? ⟨b, 5, none⟩ = some (.int .u32 p.flags) := h.cell 5
theorem PkAt.c6 (h : PkAt w b p v) : w.cell? ⟨b, 6, none⟩ = some (.int .u64 p.g1) := h.cell 6
theorem PkAt.c7 (h : PkAt w b p v) : w.cell? ⟨b, 7, none⟩ = some (.int .u64 p.g2) := h.cell 7
theorem PkAt.c8 (h : PkAt w b p v) : w.cell? ⟨b, 8, none⟩ = some (.int .u64 p.g3) := h.cell 8
theorem PkAt.c9 (h : PkAt w b p v) : w.cell? ⟨b, 9, none⟩ = some (.int .u64 p.g4) := h.cell 9
theorem PkAt.cs (h : PkAt w b p v) (i : Nat) (x : UInt8) (hi : p.sum[i]? = some x) : w.cell? ⟨b, 10 + i, none⟩ = some (bv x) := by
  rw [h.cell]
  show (pkL p v)[10 + i]? = _
  rw [Nat.add_comm]
  show (p.sum.map bv ++ [v])[i]? = _
  have hl : i < p.sum.length := (List.getElem?_eq_some_iff.1 hi).1
  rw [List.getElem?_append_left (by simpa using hl), List.getElem?_map, hi]
  rfl
theorem PkAt.cd (h : PkAt w b p v) (hp : p.Ok) : w.cell? ⟨b, 42, none⟩ = some v := by
  rw [h.cell]
  show (p.sum.map bv ++ [v])[32]? = _
  rw [List.getElem?_append_right (by simp [hp.sum])]
  simp [hp.sum]
theorem pkL_length (hp : p.Ok) : (pkL p v).length = 43 := by simp [pkL, hp.sum]
/-- The place of a number in a packet. -/
def offOf (k : Int) : Nat := if k = 0 then 1 else if k = 1 then 2 else if k = 2 then 3 else if k = 3 then 4 else 5
theorem PkAt.num (h : PkAt w b p v) (k : Int) : w.cell? ⟨b, offOf k, none⟩ = some (.int .u32 (p.num k)) := by
  unfold offOf Wi.Pk.num
  repeat' split
  · exact h.c1
  · exact h.c2
  · exact h.c3
  · exact h.c4
  · exact h.c5
end

set_option maxHeartbeats 4000000 in
theorem at_calls (w : World) (b : Nat) (k : Int) : Pur Tryd.prog 81 #[.pointer (some ⟨b, 0, none⟩), .int .i64 k] w (.pointer (some ⟨b, offOf k, none⟩)) := by
  unfold Pur offOf
  by_cases h0 : k = 0
  · subst h0; go_enter Tryd.func81, Tryd.ntmps81; go_wp2; all_goals go_ret; all_goals exact ⟨rfl, (by first | exact Below.refl _ _ | exact below_alloc1 _ _ | exact below_alloc2 _ _ _ | exact below_alloc3 _ _ _ _ | (repeat' (first | assumption | exact Below.refl _ _ | exact below_alloc1 _ _ | exact below_alloc2 _ _ _ | exact below_alloc3 _ _ _ _ | (refine Below.drew ?_) | (refine below_wb ?_ ?_) | (refine Below.alloc ?_ ?_ _) | omega | (simp; done) | (simp; omega))))⟩
  · by_cases h1 : k = 1
    · subst h1; go_enter Tryd.func81, Tryd.ntmps81; go_wp2; all_goals go_ret; all_goals exact ⟨rfl, (by first | exact Below.refl _ _ | exact below_alloc1 _ _ | exact below_alloc2 _ _ _ | exact below_alloc3 _ _ _ _ | (repeat' (first | assumption | exact Below.refl _ _ | exact below_alloc1 _ _ | exact below_alloc2 _ _ _ | exact below_alloc3 _ _ _ _ | (refine Below.drew ?_) | (refine below_wb ?_ ?_) | (refine Below.alloc ?_ ?_ _) | omega | (simp; done) | (simp; omega))))⟩
    · by_cases h2 : k = 2
      · subst h2; go_enter Tryd.func81, Tryd.ntmps81; go_wp2; all_goals go_ret; all_goals exact ⟨rfl, (by first | exact Below.refl _ _ | exact below_alloc1 _ _ | exact below_alloc2 _ _ _ | exact below_alloc3 _ _ _ _ | (repeat' (first | assumption | exact Below.refl _ _ | exact below_alloc1 _ _ | exact below_alloc2 _ _ _ | exact below_alloc3 _ _ _ _ | (refine Below.drew ?_) | (refine below_wb ?_ ?_) | (refine Below.alloc ?_ ?_ _) | omega | (simp; done) | (simp; omega))))⟩
      · by_cases h3 : k = 3
        · subst h3; go_enter Tryd.func81, Tryd.ntmps81; go_wp2; all_goals go_ret; all_goals exact ⟨rfl, (by first | exact Below.refl _ _ | exact below_alloc1 _ _ | exact below_alloc2 _ _ _ | exact below_alloc3 _ _ _ _ | (repeat' (first | assumption | exact Below.refl _ _ | exact below_alloc1 _ _ | exact below_alloc2 _ _ _ | exact below_alloc3 _ _ _ _ | (refine Below.drew ?_) | (refine below_wb ?_ ?_) | (refine Below.alloc ?_ ?_ _) | omega | (simp; done) | (simp; omega))))⟩
        · rw [if_neg h0, if_neg h1, if_neg h2, if_neg h3]
          go_enter Tryd.func81, Tryd.ntmps81; go_wp2; all_goals go_ret; all_goals exact ⟨rfl, (by first | exact Below.refl _ _ | exact below_alloc1 _ _ | exact below_alloc2 _ _ _ | exact below_alloc3 _ _ _ _ | (repeat' (first | assumption | exact Below.refl _ _ | exact below_alloc1 _ _ | exact below_alloc2 _ _ _ | exact below_alloc3 _ _ _ _ | (refine Below.drew ?_) | (refine below_wb ?_ ?_) | (refine Below.alloc ?_ ?_ _) | omega | (simp; done) | (simp; omega))))⟩

/-- v is a slice that reads as the spans l. -/
def Spans (w : World) (v : Value) (l : List (Nat × Nat)) : Prop :=
  ∃ g c, v = .slice (some ⟨g, 0, none⟩) l.length c ∧ (∃ cs fz, w.heap[g]? = some (.cells cs 110 fz)) ∧ l.length ≤ 4 ∧ l.length ≤ c ∧ ∀ i s, l[i]? = some s → w.cell? ⟨g, i * 2, none⟩ = some (.int .u32 s.1) ∧ w.cell? ⟨g, i * 2 + 1, none⟩ = some (.int .u32 s.2) ∧ s.1 < 4294967296 ∧ s.2 < 4294967296
theorem Spans.below {w w' : World} {v : Value} {l : List (Nat × Nat)} (h : Spans w v l) (hb : Below w.heap.size w w') : Spans w' v l := by
  obtain ⟨g, c, rfl, ⟨cs, fz, hk⟩, h4, hc, hr⟩ := h
  have hg := heap_lt hk
  refine ⟨g, c, rfl, ⟨cs, fz, blk_below hk hb⟩, h4, hc, fun i s hs => ?_⟩
  obtain ⟨h1, h2, h3⟩ := hr i s hs
  exact ⟨((bcell hb).1 g _ hg).trans h1, ((bcell hb).1 g _ hg).trans h2, h3⟩

theorem any_take_next {α : Type} {l : List α} {i : Nat} {x : α} (f : α → Bool) (h : l[i]? = some x) : (l.take (i + 1)).any f = ((l.take i).any f || f x) := by
  rw [Wi.take_next h, List.any_append]; simp

/-- The loop of 'meet', behind i spans. -/
def MeetI (l : List (Nat × Nat)) (lo hi g c : Nat) (w : World) (i : Nat) (a : Act) (w' : World) : Prop :=
  (∃ U : Nat → Value, a = ⟨#[.slice (some ⟨g, 0, none⟩) l.length c, .int .u64 lo, .int .u64 hi, U 3, U 4, U 5, .bool false, U 7, U 8, .slice (some ⟨g, 0, none⟩) l.length c, .int .i64 l.length, .int .i64 i, U 12, U 13, U 14, U 15, U 16, U 17, U 18, U 19, U 20, U 21, U 22, U 23, U 24, U 25, U 26, U 27], []⟩) ∧ (l.take i).any (fun s => decide (s.1 ≤ hi) && decide (lo ≤ s.2)) = false ∧ Below w.heap.size w w'
set_option maxHeartbeats 8000000 in
theorem meet_calls {w : World} {v : Value} {l : List (Nat × Nat)} (h : Spans w v l) (lo hi : Nat) (hlo : lo < 18446744073709551616) (hhi : hi < 18446744073709551616) :
    Pur Tryd.prog 82 #[v, .int .u64 lo, .int .u64 hi] w (.bool (Wi.meets l lo hi)) := by
  unfold Pur
  obtain ⟨g, c, rfl, ⟨cs, fz, hk⟩, h4, hc, hr⟩ := h
  have hg := heap_lt hk
  clear hk
  have hcI : (l.length : Int) ≤ (c : Int) := by omega
  go_enter Tryd.func82, Tryd.ntmps82
  go_wp2_with fail
  refine wp_loop_count (MeetI l lo hi g c w) l.length
    ⟨exU (fun U => ⟨#[.slice (some ⟨g, 0, none⟩) l.length c, .int .u64 lo, .int .u64 hi, U 3, U 4, U 5, .bool false, U 7, U 8, .slice (some ⟨g, 0, none⟩) l.length c, .int .i64 l.length, .int .i64 0, U 12, U 13, U 14, U 15, U 16, U 17, U 18, U 19, U 20, U 21, U 22, U 23, U 24, U 25, U 26, U 27], []⟩) rfl, rfl, Below.refl _ _⟩ ?_ ?_
  · intro i a w' hi' h
    obtain ⟨⟨U, rfl⟩, hn, hb⟩ := h
    obtain ⟨s, hs⟩ : ∃ s, l[i]? = some s := ⟨l[i], List.getElem?_eq_getElem hi'⟩
    obtain ⟨h1, h2, h3, h5⟩ := hr i s hs
    have c1 := ((bcellB hb).1 g _ hg).trans h1
    have c2 := ((bcellB hb).1 g _ hg).trans h2
    have Hn := Lib.hid (any_take_next (fun s : Nat × Nat => decide (s.1 ≤ hi) && decide (lo ≤ s.2)) hs)
    have hil : (i : Int) < (l.length : Int) := by exact_mod_cast hi'
    have hi0 : (0 : Int) ≤ (i : Int) := Int.natCast_nonneg i
    have h4I : (i : Int) < 4 := by omega
    have Hx := Lib.hid hi'
    have w1 : IntKind.u64.wrap (s.1 : Int) = (s.1 : Int) := by simp only [IntKind.wrap, IntKind.bits, IntKind.signed]; simp; omega
    have w2 : IntKind.u64.wrap (s.2 : Int) = (s.2 : Int) := by simp only [IntKind.wrap, IntKind.bits, IntKind.signed]; simp; omega
    clear hr h1 h2 hs h4 hc hi'
    by_cases t1 : s.1 ≤ hi
    · have t1' : (s.1 : Int) ≤ (hi : Int) := by exact_mod_cast t1
      by_cases t2 : lo ≤ s.2
      · have t2' : (lo : Int) ≤ (s.2 : Int) := by exact_mod_cast t2
        go_wp2_with fail
        go_ret
        refine ⟨?_, hb.trans ((below_alloc1 _ _).mono hb.size)⟩
        have : (l.any fun s => decide (s.1 ≤ hi) && decide (lo ≤ s.2)) = true := by
          have h6 := Hn.out
          rw [hn] at h6
          rw [← List.take_append_drop (i + 1) l, List.any_append, h6]
          simp [t1, t2]
        unfold Wi.meets
        rw [this]
        rfl
      · have t2' : ¬ (lo : Int) ≤ (s.2 : Int) := by omega
        go_wp2_with fail
        exact ⟨exU (fun U => ⟨#[.slice (some ⟨g, 0, none⟩) l.length c, .int .u64 lo, .int .u64 hi, U 3, U 4, U 5, .bool false, U 7, U 8, .slice (some ⟨g, 0, none⟩) l.length c, .int .i64 l.length, .int .i64 (i + 1 : Nat), U 12, U 13, U 14, U 15, U 16, U 17, U 18, U 19, U 20, U 21, U 22, U 23, U 24, U 25, U 26, U 27], []⟩) rfl, by rw [Hn.out, hn]; simp [t2], hb.trans ((below_alloc1 _ _).mono hb.size)⟩
    · have t1' : ¬ (s.1 : Int) ≤ (hi : Int) := by omega
      go_wp2_with fail
      exact ⟨exU (fun U => ⟨#[.slice (some ⟨g, 0, none⟩) l.length c, .int .u64 lo, .int .u64 hi, U 3, U 4, U 5, .bool false, U 7, U 8, .slice (some ⟨g, 0, none⟩) l.length c, .int .i64 l.length, .int .i64 (i + 1 : Nat), U 12, U 13, U 14, U 15, U 16, U 17, U 18, U 19, U 20, U 21, U 22, U 23, U 24, U 25, U 26, U 27], []⟩) rfl, by rw [Hn.out, hn]; simp [t1], hb.trans ((below_alloc1 _ _).mono hb.size)⟩
  · intro a w' h
    obtain ⟨⟨U, rfl⟩, hn, hb⟩ := h
    rw [List.take_length] at hn
    go_wp2_with fail
    go_ret
    unfold Wi.meets
    exact ⟨by rw [hn]; rfl, hb⟩
end Go.Proofs.YtbgfoobcpacfeaaDoor

/- Rows of the call's own, of any element: append at the operation. -/
namespace Go.Proofs.YtbgfoobcpacfeaaDoor
open Go.RowKit
set_option linter.unusedVariables false
set_option linter.unusedSimpArgs false
section
variable {P : Program} {w : World} {B : Nat} {t e : TypeId} {z : Value} {size bytes : Nat}
theorem run_append_row (ty : TypeId) (ht : P.underlying t = some (.slice e)) (hi : (P.info? e).map (fun i => (i.zero, i.size, i.bytes)) = some (some z, size, bytes)) (hzs : z.cells.size = size) (hsz : 0 < size)
    {v : Value} {n : Nat} {xs : List Value} (h : w.ownsRow B e size v n xs) (a : Addr) (m c : Nat) (news : List Value) (hl : news.length = m * size) (hnews : ∀ j u, news[j]? = some u → w.cell? (a.add j) = some u)
    (h1 : ∀ u ∈ news, u.oneCell' = true) (h63 : n + m ≤ maxLen) (hbytes : (n + m) * bytes ≤ 140737488355328) (hB : B ≤ w.heap.size) :
    ∃ v' w', (Builtin.append_ #[t, t] ty #[v, .slice (some a) m c]).run P w = .ok v' w' ∧ w'.ownsRow B e size v' (n + m) (xs ++ news) ∧ w.grownBy w' v.ownBlock ∧ (v'.ownBlock = v.ownBlock ∨ v'.ownBlock = some w.heap.size) := by
  cases hq : P.info? e with
  | none => rw [hq] at hi; cases hi
  | some i =>
    rw [hq] at hi
    simp only [Option.map_some, Option.some.injEq, Prod.mk.injEq] at hi
    obtain ⟨v', w', h2, h3, h4, _, h5⟩ := run_append_own_at (P := P) w B t ty e i z size bytes ht hq hi.1 hi.2.1 hi.2.2 hzs hsz v n xs h a m c news hl hnews h1 h63 hbytes hB
    exact ⟨v', w', h2, h3, h4, h5⟩
theorem wpList_append_row {ops : Array Oper} {rest : List Oper} {o : Oper} {ac : Act} {Q : Exit → Act → World → Prop} (ht : P.underlying t = some (.slice e)) (hi : (P.info? e).map (fun i => (i.zero, i.size, i.bytes)) = some (some z, size, bytes)) (hzs : z.cells.size = size) (hsz : 0 < size)
    (hgd : o.guard = none) (s x : Operand) (ho : o.op = .call { callee := .builtin .append, args := #[s, x], argTypes := #[t, t] }) {v : Value} {n : Nat} {xs : List Value} (a : Addr) (m c : Nat) (news : List Value)
    (hs : ac.eval s = v) (hx : ac.eval x = .slice (some a) m c) (h : w.ownsRow B e size v n xs) (hl : news.length = m * size) (hnews : ∀ j u, news[j]? = some u → w.cell? (a.add j) = some u)
    (h1 : ∀ u ∈ news, u.oneCell' = true) (h63 : n + m ≤ maxLen) (hbytes : (n + m) * bytes ≤ 140737488355328) (hB : B ≤ w.heap.size)
    (hk : ∀ v' w', w'.ownsRow B e size v' (n + m) (xs ++ news) → w.grownBy w' v.ownBlock → (v'.ownBlock = v.ownBlock ∨ v'.ownBlock = some w.heap.size) → wpList P ops Q rest (ac.put o.dst v') w') : wpList P ops Q (o :: rest) ac w := by
  refine wpList_plain hgd fun K hK => ?_
  obtain ⟨v', w', hrun, h2, h3, h4⟩ := run_append_row (P := P) o.type ht hi hzs hsz h a m c news hl hnews h1 h63 hbytes hB
  unfold Oper.wp execOp
  simp only [ho, resolve, invoke, builtin, Sem.run_bind, Sem.run_pure, Result.andThen_ok, List.map_toArray, List.map_cons, List.map_nil, hs, hx, hrun]
  exact hK _ _ (hk v' w' h2 h3 h4)
theorem row_below {w' : World} {v : Value} {n : Nat} {xs : List Value} (h : w.ownsRow B e size v n xs) (hb : Below w.heap.size w w') : w'.ownsRow B e size v n xs := by
  refine h.kept (row := none) ⟨hb.os, hb.tape, hb.output, hb.size, fun k hk _ => hb.block k hk⟩ ?_
  cases e : v.ownBlock with
  | none => exact .inl rfl
  | some g => exact .inr (fun e' => by cases e')
theorem row_grown {w' : World} {r : Option Nat} {v : Value} {n : Nat} {xs : List Value} (h : w.ownsRow B e size v n xs) (hg : w.grownBy w' r) (hne : ∀ g, v.ownBlock = some g → r ≠ some g) : w'.ownsRow B e size v n xs := by
  refine h.kept hg ?_
  cases e : v.ownBlock with
  | none => exact .inl rfl
  | some g => exact .inr (fun e' => hne g e e'.symm)
/-- A block that was laid last holds what it holds. -/
theorem lit_cells {W : World} {cs : Array Value} {ty : TypeId} : ∀ j u, cs.toList[j]? = some u → (W.alloc (.cells cs ty)).cell? ((⟨W.heap.size, 0, none⟩ : Addr).add j) = some u := fun j u hj => by
  rw [add_flat, Nat.zero_add, has_cell (heap_new W (.cells cs ty) W.heap.size rfl)]
  simpa using hj
end
end Go.Proofs.YtbgfoobcpacfeaaDoor

/- What the fields may be: the functions of the table. (Printed by wip/w7gen/mkmay.py.) -/
namespace Go.Proofs.YtbgfoobcpacfeaaDoor
open Go.RowKit
set_option maxRecDepth 100000
set_option linter.unusedVariables false
set_option linter.unusedSimpArgs false

abbrev spanC (l : List (Nat × Nat)) : List Value := l.flatMap fun s => [.int .u32 s.1, .int .u32 s.2]
theorem spanC_at : ∀ (l : List (Nat × Nat)) (i : Nat) (s : Nat × Nat), l[i]? = some s → (spanC l)[i * 2]? = some (.int .u32 s.1) ∧ (spanC l)[i * 2 + 1]? = some (.int .u32 s.2)
  | [], i, s, h => by simp at h
  | x :: l, 0, s, h => by
    simp only [List.getElem?_cons_zero, Option.some.injEq] at h
    subst h
    exact ⟨rfl, rfl⟩
  | x :: l, i + 1, s, h => by
    have := spanC_at l i s (by simpa using h)
    rw [show (i + 1) * 2 = i * 2 + 1 + 1 by omega]
    exact this
theorem spans_new (w : World) (cs : Array Value) (l : List (Nat × Nat)) (hc : cs = (spanC l).toArray) (h4 : l.length ≤ 4) (hb : ∀ s ∈ l, s.1 < 4294967296 ∧ s.2 < 4294967296) :
    Spans (w.alloc (.cells cs 110)) (.slice (some ⟨w.heap.size, 0, none⟩) l.length l.length) l := by
  subst hc
  refine ⟨_, _, rfl, ⟨_, _, heap_new w _ _ rfl⟩, h4, Nat.le_refl _, fun i s hs => ?_⟩
  have h := spanC_at l i s hs
  have hk := has_cell (heap_new w (.cells (spanC l).toArray 110) w.heap.size rfl)
  exact ⟨by rw [hk]; simpa using h.1, by rw [hk]; simpa using h.2, hb s (List.mem_of_getElem? hs)⟩

/-- What a function of the table gives: spans in memory of its own. -/
def Gv (w : World) (l : List (Nat × Nat)) (e : Ending) (w' : World) : Prop := ∃ v, e = .returned v ∧ Spans w' v l ∧ (∀ g, v.ownBlock = some g → w.heap.size ≤ g) ∧ Below w.heap.size w w'
theorem gv_new (w : World) (cs : Array Value) (l : List (Nat × Nat)) (n : Nat) (hn : n = l.length) (hc : cs = (spanC l).toArray) (h4 : l.length ≤ 4) (hb : ∀ s ∈ l, s.1 < 4294967296 ∧ s.2 < 4294967296) :
    Gv w l (.returned (.slice (some ⟨w.heap.size, 0, none⟩) n n)) (w.alloc (.cells cs 110)) := by
  subst hn
  exact ⟨_, rfl, spans_new w cs l hc h4 hb, fun g e => by cases e; exact Nat.le_refl _, below_alloc1 _ _⟩

theorem anyId_calls (w : World) (x : Value) : Calls Tryd.prog 59 #[x] w (Gv w [(1, 2147483647)]) := by
  go_enter Tryd.func59, Tryd.ntmps59
  go_wp2_with fail
  go_ret
  exact gv_new w _ [(1, 2147483647)] 1 rfl rfl (by decide) (by decide)
theorem anyBlock_calls (w : World) (x : Value) : Calls Tryd.prog 60 #[x] w (Gv w [(0, 4095)]) := by
  go_enter Tryd.func60, Tryd.ntmps60
  go_wp2_with fail
  go_ret
  exact gv_new w _ [(0, 4095)] 1 rfl rfl (by decide) (by decide)
theorem fromOne_calls (w : World) (x : Value) : Calls Tryd.prog 61 #[x] w (Gv w [(1, 4294967295)]) := by
  go_enter Tryd.func61, Tryd.ntmps61
  go_wp2_with fail
  go_ret
  exact gv_new w _ [(1, 4294967295)] 1 rfl rfl (by decide) (by decide)
theorem commands1_calls (w : World) (x : Value) : Calls Tryd.prog 62 #[x] w (Gv w [(1, 64)]) := by
  go_enter Tryd.func62, Tryd.ntmps62
  go_wp2_with fail
  go_ret
  exact gv_new w _ [(1, 64)] 1 rfl rfl (by decide) (by decide)
theorem content_calls (w : World) (x : Value) : Calls Tryd.prog 64 #[x] w (Gv w [(1, 1024)]) := by
  go_enter Tryd.func64, Tryd.ntmps64
  go_wp2_with fail
  go_ret
  exact gv_new w _ [(1, 1024)] 1 rfl rfl (by decide) (by decide)
theorem anything_calls (w : World) (x : Value) : Calls Tryd.prog 65 #[x] w (Gv w [(0, 4294967295)]) := by
  go_enter Tryd.func65, Tryd.ntmps65
  go_wp2_with fail
  go_ret
  exact gv_new w _ [(0, 4294967295)] 1 rfl rfl (by decide) (by decide)
theorem commands2_calls (w : World) (x : Value) : Calls Tryd.prog 67 #[x] w (Gv w [(16, 16)]) := by
  go_enter Tryd.func67, Tryd.ntmps67
  go_wp2_with fail
  go_ret
  exact gv_new w _ [(16, 16)] 1 rfl rfl (by decide) (by decide)
theorem commands3_calls (w : World) (x : Value) : Calls Tryd.prog 68 #[x] w (Gv w [(1, 4096)]) := by
  go_enter Tryd.func68, Tryd.ntmps68
  go_wp2_with fail
  go_ret
  exact gv_new w _ [(1, 4096)] 1 rfl rfl (by decide) (by decide)
theorem commands4_calls (w : World) (x : Value) : Calls Tryd.prog 70 #[x] w (Gv w [(0, 4096)]) := by
  go_enter Tryd.func70, Tryd.ntmps70
  go_wp2_with fail
  go_ret
  exact gv_new w _ [(0, 4096)] 1 rfl rfl (by decide) (by decide)
theorem commands5_calls (w : World) (x : Value) : Calls Tryd.prog 71 #[x] w (Gv w [(0, 31)]) := by
  go_enter Tryd.func71, Tryd.ntmps71
  go_wp2_with fail
  go_ret
  exact gv_new w _ [(0, 31)] 1 rfl rfl (by decide) (by decide)
theorem commands6_calls (w : World) (x : Value) : Calls Tryd.prog 72 #[x] w (Gv w [(0, 1), (4, 5), (8, 9)]) := by
  go_enter Tryd.func72, Tryd.ntmps72
  go_wp2_with fail
  go_ret
  exact gv_new w _ [(0, 1), (4, 5), (8, 9)] 3 rfl rfl (by decide) (by decide)
theorem commands7_calls (w : World) (x : Value) : Calls Tryd.prog 73 #[x] w (Gv w [(0, 63)]) := by
  go_enter Tryd.func73, Tryd.ntmps73
  go_wp2_with fail
  go_ret
  exact gv_new w _ [(0, 63)] 1 rfl rfl (by decide) (by decide)
theorem commands8_calls (w : World) (x : Value) : Calls Tryd.prog 75 #[x] w (Gv w [(1, 256)]) := by
  go_enter Tryd.func75, Tryd.ntmps75
  go_wp2_with fail
  go_ret
  exact gv_new w _ [(1, 256)] 1 rfl rfl (by decide) (by decide)
theorem commands9_calls (w : World) (x : Value) : Calls Tryd.prog 76 #[x] w (Gv w [(1, 255)]) := by
  go_enter Tryd.func76, Tryd.ntmps76
  go_wp2_with fail
  go_ret
  exact gv_new w _ [(1, 255)] 1 rfl rfl (by decide) (by decide)
theorem aBit_calls (w : World) (x : Value) : Calls Tryd.prog 77 #[x] w (Gv w [(0, 1)]) := by
  go_enter Tryd.func77, Tryd.ntmps77
  go_wp2_with fail
  go_ret
  exact gv_new w _ [(0, 1)] 1 rfl rfl (by decide) (by decide)
theorem commands10_calls (w : World) (x : Value) : Calls Tryd.prog 79 #[x] w (Gv w [(0, 255)]) := by
  go_enter Tryd.func79, Tryd.ntmps79
  go_wp2_with fail
  go_ret
  exact gv_new w _ [(0, 255)] 1 rfl rfl (by decide) (by decide)

set_option maxHeartbeats 4000000 in
theorem fromId_calls {w : World} {b : Nat} {p : Wi.Pk} {v : Value} (h : PkAt w b p v) (hp : p.Ok) : Calls Tryd.prog 66 #[.pointer (some ⟨b, 0, none⟩)] w (Gv w [(p.id, 4294967295)]) := by
  have h1 := h.c1
  have h2 := hp.id
  go_enter Tryd.func66, Tryd.ntmps66
  go_wp2_with fail
  go_ret
  exact gv_new w _ [(p.id, 4294967295)] 1 rfl rfl (Nat.le_of_ble_eq_true rfl) (by intro s hs; simp only [List.mem_singleton] at hs; subst hs; exact ⟨h2, Nat.lt_of_lt_of_le (Nat.lt_succ_self _) (Nat.le_refl _)⟩)
set_option maxHeartbeats 4000000 in
theorem reply_calls {w : World} {b : Nat} {p : Wi.Pk} {v : Value} (h : PkAt w b p v) (hp : p.Ok) : Calls Tryd.prog 80 #[.pointer (some ⟨b, 0, none⟩)] w (Gv w (if p.flags = 0 then [(1, 1024)] else [(0, 0)])) := by
  have h1 := h.c5
  by_cases h0 : p.flags = 0
  · rw [if_pos h0]
    rw [h0] at h1
    go_enter Tryd.func80, Tryd.ntmps80
    go_wp2_with fail
    refine (content_calls w _).mono ?_
    rintro e w' ⟨u, rfl, hu⟩
    go_wp2_with fail
    go_ret
    exact ⟨u, rfl, hu⟩
  · rw [if_neg h0]
    have h0' : ¬ ((p.flags : Int) = 0) := by exact_mod_cast h0
    go_enter Tryd.func80, Tryd.ntmps80
    go_wp2_with fail
    go_ret
    exact gv_new w _ [(0, 0)] 1 rfl rfl (by decide) (by decide)
set_option maxHeartbeats 4000000 in
theorem words_calls {w : World} {b : Nat} {p : Wi.Pk} {v : Value} (h : PkAt w b p v) (hp : p.Ok) : Calls Tryd.prog 74 #[.pointer (some ⟨b, 0, none⟩)] w (Gv w [(1, min 8 ((4294967360 - p.block) % 4294967296))]) := by
  have h1 := h.c2
  have h2 := hp.block
  go_enter Tryd.func74, Tryd.ntmps74
  go_wp2_with fail
  case inr =>
    have e : min 8 ((4294967360 - p.block) % 4294967296) = 8 := by omega
    rw [e]
    go_ret
    exact gv_new w _ [(1, 8)] 1 rfl rfl (by decide) (by decide)
  case inl =>
    have e : (64 - (p.block : Int)) % 4294967296 = ((min 8 ((4294967360 - p.block) % 4294967296) : Nat) : Int) := by omega
    have hm : min 8 ((4294967360 - p.block) % 4294967296) < 4294967296 := by omega
    rw [e]
    generalize min 8 ((4294967360 - p.block) % 4294967296) = m at *
    go_ret
    exact gv_new w _ [(1, m)] 1 rfl rfl (Nat.le_of_ble_eq_true rfl) (by intro s hs; simp only [List.mem_singleton] at hs; subst hs; exact ⟨Nat.lt_of_lt_of_le (Nat.lt_succ_self 1) (by decide), hm⟩)

theorem sp_t : Tryd.prog.underlying 108 = some (.slice 110) := by kernel_rfl
theorem sp_i : (Tryd.prog.info? 110).map (fun i => (i.zero, i.size, i.bytes)) = some (some (.agg #[.int .u32 0, .int .u32 0]), 2, 8) := by kernel_rfl
theorem sizes_index (w : World) : ∀ i : Nat, i < 4 → (Instr.index 162 (.agg #[.int .u32 128, .int .u32 256, .int .u32 512, .int .u32 1024]) (.int .i64 i)).run Tryd.prog w = .ok ([Value.int .u32 128, .int .u32 256, .int .u32 512, .int .u32 1024].getD i undef) w := by
  intro i hi
  rcases (by omega : i = 0 ∨ i = 1 ∨ i = 2 ∨ i = 3) with rfl | rfl | rfl | rfl
  all_goals kernel_rfl
abbrev sz4 : List (Nat × Nat) := [(128, 128), (256, 256), (512, 512), (1024, 1024)]
theorem spans_own {w : World} {B : Nat} {v : Value} {l : List (Nat × Nat)} (h : w.ownsRow B 110 2 v l.length (spanC l)) (hl : l ≠ []) (h4 : l.length ≤ 4) (hb : ∀ s ∈ l, s.1 < 4294967296 ∧ s.2 < 4294967296) : Spans w v l := by
  have hh := h
  obtain ⟨h0, ⟨rfl, hn⟩ | ⟨g, cap, cur, rfl, hB, hg, hn, hc, hs, ht⟩⟩ := h
  · exact absurd (List.eq_nil_of_length_eq_zero hn) hl
  · refine ⟨g, cap, rfl, ⟨_, _, hg⟩, h4, hn, fun i s hs => ?_⟩
    have hil : i < l.length := (List.getElem?_eq_some_iff.1 hs).1
    have h := spanC_at l i s hs
    exact ⟨by rw [hh.cellAt _ (by omega)]; exact h.1, by rw [hh.cellAt _ (by omega)]; exact h.2, hb s (List.mem_of_getElem? hs)⟩
/-- The loop of 'sizes', behind i sizes. -/
def SizesI (w : World) (i : Nat) (a : Act) (w' : World) : Prop :=
  ∃ v, (∃ U : Nat → Value, a = ⟨#[U 0, U 1, .slice none 0 0, v, U 4, U 5, .agg #[.int .u32 128, .int .u32 256, .int .u32 512, .int .u32 1024], .int .i64 i, U 8, U 9, U 10, U 11, U 12, U 13, U 14, U 15, U 16, U 17], []⟩) ∧ w'.ownsRow w.heap.size 110 2 v (sz4.take i).length (spanC (sz4.take i)) ∧ Below w.heap.size w w'
set_option maxHeartbeats 8000000 in
theorem sizes_calls {w : World} (x : Value) (hs : Szs w) : Calls Tryd.prog 69 #[x] w (Gv w sz4) := by
  have c0 := hs.2 0 _ rfl
  have c1 := hs.2 1 _ rfl
  have c2 := hs.2 2 _ rfl
  have c3 := hs.2 3 _ rfl
  go_enter Tryd.func69, Tryd.ntmps69
  go_wp2_with fail
  refine wp_loop_count (SizesI w) 4 ⟨_, exU (fun U => ⟨#[U 0, U 1, .slice none 0 0, .slice none 0 0, U 4, U 5, .agg #[.int .u32 128, .int .u32 256, .int .u32 512, .int .u32 1024], .int .i64 0, U 8, U 9, U 10, U 11, U 12, U 13, U 14, U 15, U 16, U 17], []⟩) rfl, World.ownsRow_nil _ _ _ _, Below.refl _ _⟩ ?_ ?_
  · rintro i a w' hi ⟨v, ⟨U, rfl⟩, ho, hb⟩
    have hix := sizes_index w' i hi
    obtain ⟨s, hs⟩ : ∃ s, sz4[i]? = some s := ⟨sz4[i], List.getElem?_eq_getElem hi⟩
    have hsv : [Value.int .u32 128, .int .u32 256, .int .u32 512, .int .u32 1024].getD i undef = .int .u32 s.1 ∧ s.2 = s.1 := by
      rcases (by omega : i = 0 ∨ i = 1 ∨ i = 2 ∨ i = 3) with rfl | rfl | rfl | rfl
      all_goals (cases hs; exact ⟨rfl, rfl⟩)
    rw [hsv.1] at hix
    have hlen : (sz4.take i).length = i := by rw [List.length_take]; show min i 4 = i; omega
    have Hn := Lib.hid (Wi.take_next hs)
    have Hv := Lib.hid hsv.2
    have hi4 : (i : Int) < 4 := by exact_mod_cast hi
    have hi0 : (0 : Int) ≤ (i : Int) := Int.natCast_nonneg i
    clear hsv hs
    go_wp2_with (first
      | (at_builtin
         refine wpList_append_row sp_t sp_i rfl (by decide) rfl (.tmp 10) (.tmp 14) rfl ⟨w'.heap.size, 0, none⟩ 1 1 [.int .u32 s.1, .int .u32 s.1] rfl rfl (row_below ho (below_alloc1 w' _)) rfl (lit_cells (cs := #[.int .u32 s.1, .int .u32 s.1])) (by intro u hu; simp at hu; subst hu; rfl) (by simp only [maxLen]; omega) (by omega) (by have := hb.size; simp; omega) ?_
         intro v1 w1 ho1 hg1 hat1)
      | fail)
    refine ⟨v1, exU (fun U => ⟨#[U 0, U 1, .slice none 0 0, v1, U 4, U 5, .agg #[.int .u32 128, .int .u32 256, .int .u32 512, .int .u32 1024], .int .i64 (i + 1 : Nat), U 8, U 9, U 10, U 11, U 12, U 13, U 14, U 15, U 16, U 17], []⟩) rfl, ?_, ?_⟩
    · rw [Hn.out, List.length_append, spanC, List.flatMap_append]
      have : spanC [s] = [.int .u32 s.1, .int .u32 s.1] := by have e := Hv.out; show [Value.int .u32 s.1, .int .u32 s.2] = _; rw [e]
      unfold spanC at this
      rw [this]
      exact ho1
    · exact (hb.trans ((below_alloc1 _ _).mono hb.size)).grown hg1 (by have := hb.size; simp; omega) (fun k hk => (ho.lt k hk).1)
  · rintro a w' ⟨v, ⟨U, rfl⟩, ho, hb⟩
    go_wp2_with fail
    go_ret
    exact ⟨v, rfl, spans_own ho (by decide) (by decide) (by decide), fun g e => (ho.lt g e).1, hb⟩
theorem may_calls {w : World} {b : Nat} {p : Wi.Pk} {v : Value} (f : FuncId) (hf : f ∈ Wi.mays) (h : PkAt w b p v) (hp : p.Ok) (hs : Szs w) : Calls Tryd.prog f #[.pointer (some ⟨b, 0, none⟩)] w (Gv w (Wi.spansOf f p)) := by
  simp only [Wi.mays, List.mem_cons, List.not_mem_nil, or_false] at hf
  rcases hf with rfl | rfl | rfl | rfl | rfl | rfl | rfl | rfl | rfl | rfl | rfl | rfl | rfl | rfl | rfl | rfl | rfl | rfl | rfl | rfl
  · exact anyId_calls w _
  · exact anyBlock_calls w _
  · exact fromOne_calls w _
  · exact commands1_calls w _
  · exact content_calls w _
  · exact anything_calls w _
  · exact fromId_calls h hp
  · exact commands2_calls w _
  · exact commands3_calls w _
  · exact sizes_calls _ hs
  · exact commands4_calls w _
  · exact commands5_calls w _
  · exact commands6_calls w _
  · exact commands7_calls w _
  · exact words_calls h hp
  · exact commands8_calls w _
  · exact commands9_calls w _
  · exact aBit_calls w _
  · exact commands10_calls w _
  · exact reply_calls h hp
end Go.Proofs.YtbgfoobcpacfeaaDoor
