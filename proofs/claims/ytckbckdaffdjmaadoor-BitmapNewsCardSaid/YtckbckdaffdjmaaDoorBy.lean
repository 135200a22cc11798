/- Bytes in memory: a slice that reads as a list of bytes (RB); a row of the call's own that holds one (OB); append, slicing. -/
import Derived.Test.YtckbckdaffdjmaaDoorKt
import Derived.Maps.AppendAt
import Derived.Laws.OwnMore
import Derived.WalkSpells
import Derived.Lib.LazyBuf
namespace Go.Proofs.YtckbckdaffdjmaaDoor
open Go.RowKit
set_option linter.unusedVariables false
set_option linter.unusedSimpArgs false

/-- A byte as a value. -/
abbrev bv (b : UInt8) : Value := .int .u8 (b.toNat : Int)

theorem bv_of_int (x : Nat) : bv (UInt8.ofNat x) = .int .u8 ((x : Int) % 256) := by
  show Value.int .u8 ((UInt8.ofNat x).toNat : Int) = _
  rw [UInt8.toNat_ofNat']; rfl
/-- v is a slice that reads as l. -/
def RB (w : World) (v : Value) (l : List UInt8) : Prop :=
  ∃ p c, v = .slice p l.length c ∧ l.length ≤ c ∧ c ≤ maxLen ∧ l.length ≤ 140737488355328 ∧
    ∀ i b, l[i]? = some b → ∃ g o, p = some ⟨g, o, none⟩ ∧ g < w.heap.size ∧ w.cell? ⟨g, o + i, none⟩ = some (bv b)
/-- v is a slice of a block of the call's own (from B on) that holds l at its head. -/
def OB (B : Nat) (w : World) (v : Value) (l : List UInt8) : Prop := w.ownsRow B 5 1 v l.length (l.map bv) ∧ l.length ≤ 140737488355328

section
variable {w w' : World} {B : Nat} {v : Value} {l m : List UInt8}
theorem RB.nil_ (w : World) : RB w (.slice none 0 0) [] := ⟨none, 0, rfl, Nat.le_refl _, Nat.zero_le _, Nat.zero_le _, fun i b h => by simp at h⟩
theorem RB.keep (h : RB w v l) (hs : w.heap.size ≤ w'.heap.size) (hk : l ≠ [] → ∀ g o, v.ownBlock = some g → g < w.heap.size → w'.cell? ⟨g, o, none⟩ = w.cell? ⟨g, o, none⟩) : RB w' v l := by
  obtain ⟨p, c, rfl, h1, h2, h3, hr⟩ := h
  refine ⟨p, c, rfl, h1, h2, h3, fun i b hb => ?_⟩
  obtain ⟨g, o, rfl, hg, hc⟩ := hr i b hb
  exact ⟨g, o, rfl, by omega, (hk (by intro e; subst e; simp at hb) g _ rfl hg).trans hc⟩
theorem RB.below (h : RB w v l) (hb : Below w.heap.size w w') : RB w' v l := h.keep hb.size fun _ g o _ hg => (bcell hb).1 g o hg
theorem RB.belowB (h : RB w v l) (hb : Below B w w') (hB : l ≠ [] → ∀ g, v.ownBlock = some g → g < B) : RB w' v l := h.keep hb.size fun hl g o e hg => (bcellB hb).1 g o (hB hl g e)
theorem RB.grown (h : RB w v l) {r : Option Nat} (hg : w.grownBy w' r) (hne : l ≠ [] → ∀ g, v.ownBlock = some g → r ≠ some g) : RB w' v l :=
  h.keep hg.size fun hl g o e hlt => World.cell?_of_block (hg.block g hlt (fun e' => hne hl g e e'.symm))
theorem RB.form (h : RB w v l) : ∃ p c, v = .slice p l.length c := by obtain ⟨p, c, e, _⟩ := h; exact ⟨p, c, e⟩
theorem RB.len (h : RB w v l) : l.length ≤ 140737488355328 := by obtain ⟨p, c, rfl, _, _, h3, _⟩ := h; exact h3
theorem RB.block (h : RB w v l) (hl : l ≠ []) : ∀ g, v.ownBlock = some g → g < w.heap.size := by
  obtain ⟨p, c, rfl, h1, h2, h3, hr⟩ := h
  intro g hg
  obtain ⟨b, r, rfl⟩ : ∃ b r, l = b :: r := by cases l with | nil => exact absurd rfl hl | cons b r => exact ⟨b, r, rfl⟩
  obtain ⟨g', o, rfl, hlt, _⟩ := hr 0 b rfl
  simp only [Value.ownBlock, Option.some.injEq] at hg
  omega

theorem OB.nil_ (B : Nat) (w : World) : OB B w (.slice none 0 0) [] := ⟨World.ownsRow_nil w B 5 1, Nat.zero_le _⟩
theorem OB.lt (h : OB B w v l) : ∀ k, v.ownBlock = some k → B ≤ k ∧ k < w.heap.size := h.1.lt
theorem OB.kept (h : OB B w v l) {r : Option Nat} (hg : w.grownBy w' r) (hne : ∀ g, v.ownBlock = some g → r ≠ some g) : OB B w' v l := by
  refine ⟨h.1.kept hg ?_, h.2⟩
  cases e : v.ownBlock with
  | none => exact .inl rfl
  | some g => exact .inr fun e' => hne g e e'.symm
theorem below_grown {r : Option Nat} (hb : Below w.heap.size w w') : w.grownBy w' r := ⟨hb.os, hb.tape, hb.output, hb.size, fun k hk _ => hb.block k hk⟩
theorem OB.below (h : OB B w v l) (hb : Below w.heap.size w w') : OB B w' v l := h.kept (r := none) (below_grown hb) (fun g _ e => by cases e)
theorem OB.more (h : OB B w v l) {B' : Nat} (hB : B' ≤ B) : OB B' w v l := by
  obtain ⟨⟨h0, h1 | ⟨g, cap, cur, rfl, hb, hg, r⟩⟩, hl⟩ := h
  · exact ⟨⟨h0, .inl h1⟩, hl⟩
  · exact ⟨⟨h0, .inr ⟨g, cap, cur, rfl, by omega, hg, r⟩⟩, hl⟩
theorem OB.rb (h : OB B w v l) : RB w v l := by
  obtain ⟨⟨h0, ⟨rfl, hn⟩ | ⟨g, cap, cur, rfl, hB, hg, hn, hc, hs, ht⟩⟩, hl⟩ := h
  · have : l = [] := List.eq_nil_of_length_eq_zero hn
    subst this
    exact RB.nil_ w
  · refine ⟨_, cap, rfl, hn, hc, hl, fun i b hb => ⟨g, 0, rfl, heap_lt hg, ?_⟩⟩
    have hi : i < l.length := (List.getElem?_eq_some_iff.1 hb).1
    have h1 : (cur.toList.take (l.length * 1))[i]? = some (bv b) := by rw [ht]; simp [hb]
    rw [List.getElem?_take, if_pos (by omega)] at h1
    simp only [World.cell?, hg]
    simpa using h1
theorem OB.form (h : OB B w v l) (hl : l ≠ []) : ∃ g cap, v = .slice (some ⟨g, 0, none⟩) l.length cap ∧ B ≤ g ∧ g < w.heap.size ∧ l.length ≤ cap ∧ cap ≤ maxLen ∧
    (∀ i b, l[i]? = some b → w.cell? ⟨g, i, none⟩ = some (bv b)) ∧ ∀ i, w.frozen? ⟨g, i, none⟩ = false := by
  have hr := h.rb
  obtain ⟨⟨h0, ⟨rfl, hn⟩ | ⟨g, cap, cur, rfl, hB, hg, hn, hc, hs, ht⟩⟩, hm⟩ := h
  · exact absurd (List.eq_nil_of_length_eq_zero hn) hl
  · refine ⟨g, cap, rfl, hB, heap_lt hg, hn, hc, fun i b hb => ?_, fun i => by simp [World.frozen?, hg]⟩
    obtain ⟨p, c, e, _, _, _, hcell⟩ := hr
    obtain ⟨g', o, e1, _, hx⟩ := hcell i b hb
    injection e with e2
    subst e2
    injection e1 with e1
    injection e1 with e3 e4
    subst e3 e4
    simpa using hx
/-- A part of it. -/
theorem RB.sub {g o c : Nat} (h : RB w (.slice (some ⟨g, o, none⟩) l.length c) l) (lo n c' : Nat) (hn : lo + n ≤ l.length) (hc : n ≤ c') (hm : c' ≤ maxLen) :
    RB w (.slice (some ⟨g, o + lo, none⟩) n c') ((l.drop lo).take n) := by
  obtain ⟨p, c1, e, h1, h2, h3, hr⟩ := h
  simp only [Value.slice.injEq] at e
  obtain ⟨e1, _, _⟩ := e
  subst e1
  have hl : ((l.drop lo).take n).length = n := by rw [List.length_take, List.length_drop]; omega
  refine ⟨_, c', by rw [hl], by rw [hl]; exact hc, hm, by rw [hl]; omega, fun i b hb => ?_⟩
  have hi : i < n := by have := (List.getElem?_eq_some_iff.1 hb).1; omega
  rw [List.getElem?_take, if_pos hi, List.getElem?_drop] at hb
  obtain ⟨g', o', e, hg, hcell⟩ := hr _ b hb
  simp only [Option.some.injEq, Addr.mk.injEq, and_true] at e
  obtain ⟨rfl, rfl⟩ := e
  exact ⟨g, o + lo, rfl, hg, by rw [Nat.add_assoc]; exact hcell⟩
theorem RB.front {g o c : Nat} (h : RB w (.slice (some ⟨g, o, none⟩) l.length c) l) (n c' : Nat) (hn : n ≤ l.length) (hc : n ≤ c') (hm : c' ≤ maxLen) :
    RB w (.slice (some ⟨g, o, none⟩) n c') (l.take n) := by
  have := h.sub 0 n c' (by omega) hc hm
  simpa using this
theorem RB.back {g o c : Nat} (h : RB w (.slice (some ⟨g, o, none⟩) l.length c) l) (lo c' : Nat) (hn : lo ≤ l.length) (hc : l.length - lo ≤ c') (hm : c' ≤ maxLen) :
    RB w (.slice (some ⟨g, o + lo, none⟩) (l.length - lo) c') (l.drop lo) := by
  have := h.sub lo (l.length - lo) c' (by omega) hc hm
  rwa [List.take_of_length_le (by rw [List.length_drop]; exact Nat.le_refl _)] at this
theorem cell_of_rb {g o n c : Nat} (h : RB w (.slice (some ⟨g, o, none⟩) n c) l) (i : Nat) (b : UInt8) (hb : l[i]? = some b) : w.cell? ⟨g, o + i, none⟩ = some (bv b) := by
  obtain ⟨p1, c1, e, h1, h2, h3, hr⟩ := h
  simp only [Value.slice.injEq] at e
  obtain ⟨e1, _, _⟩ := e
  subst e1
  obtain ⟨g', o', e, _, hc⟩ := hr i b hb
  simp only [Option.some.injEq, Addr.mk.injEq, and_true] at e
  obtain ⟨rfl, rfl⟩ := e
  exact hc
theorem RB.empty (w : World) (p : Option Addr) (c : Nat) (hm : c ≤ maxLen) : RB w (.slice p 0 c) [] := ⟨p, c, rfl, Nat.zero_le _, hm, Nat.zero_le _, fun i b h => by simp at h⟩
theorem RB.addr {p : Option Addr} {n c : Nat} (h : RB w (.slice p n c) l) (hl : l ≠ []) : ∃ g o, p = some ⟨g, o, none⟩ ∧ g < w.heap.size ∧ n = l.length ∧ n ≤ c ∧ c ≤ maxLen := by
  obtain ⟨p1, c1, e, h1, h2, h3, hr⟩ := h
  simp only [Value.slice.injEq] at e
  obtain ⟨rfl, rfl, rfl⟩ := e
  obtain ⟨b, r, rfl⟩ : ∃ b r, l = b :: r := by cases l with | nil => exact absurd rfl hl | cons b r => exact ⟨b, r, rfl⟩
  obtain ⟨g, o, rfl, hg, _⟩ := hr 0 b rfl
  exact ⟨g, o, rfl, hg, rfl, h1, h2⟩
/-- A block that was just laid. -/
theorem OB.new (w : World) (cs : Array Value) (l : List UInt8) (hc : cs = (l.map bv).toArray) (hl : l.length ≤ 140737488355328) (hB : B ≤ w.heap.size) :
    OB B (w.alloc (.cells cs 5)) (.slice (some ⟨w.heap.size, 0, none⟩) l.length l.length) l := by
  subst hc
  refine ⟨?_, hl⟩
  have := World.ownsRow_lit (e := 5) (size := 1) (base := B) w (l.map bv).toArray l.length hB (by simp only [maxLen]; omega) (by simp)
  simpa using this
theorem RB.wb (h : RB w v l) {b : Nat} (hne : l ≠ [] → v.ownBlock ≠ some b) (c : Array Value) (t : TypeId) : RB (w.wb b c t) v l :=
  h.keep (by simp) fun hl g o e _ => World.cell?_of_block (heap_wb_ne (fun e' => hne hl (by rw [e, e'])))
theorem OB.wb (h : OB B w v l) {b : Nat} (hne : v.ownBlock ≠ some b) (c : Array Value) (t : TypeId) : OB B (w.wb b c t) v l := by
  obtain ⟨⟨h0, h1 | ⟨g, cap, cur, rfl, hB, hg, r⟩⟩, hl⟩ := h
  · exact ⟨⟨h0, .inl h1⟩, hl⟩
  · exact ⟨⟨h0, .inr ⟨g, cap, cur, rfl, hB, (heap_wb_ne (fun e' => hne (by rw [e']; rfl))).trans hg, r⟩⟩, hl⟩
theorem OB.at_ (h : OB B w v l) (he : ∀ g, v.ownBlock = some g → w'.heap[g]? = w.heap[g]?) : OB B w' v l := by
  obtain ⟨⟨h0, h1 | ⟨g, cap, cur, rfl, hB, hg, r⟩⟩, hl⟩ := h
  · exact ⟨⟨h0, .inl h1⟩, hl⟩
  · exact ⟨⟨h0, .inr ⟨g, cap, cur, rfl, hB, (he g rfl).trans hg, r⟩⟩, hl⟩
theorem RB.lit (w : World) (cs : Array Value) (l : List UInt8) (n : Nat) (hc : cs = (l.map bv).toArray) (hn : n = l.length) (hl : l.length ≤ 140737488355328) :
    RB (w.alloc (.cells cs 5)) (.slice (some ⟨w.heap.size, 0, none⟩) n n) l := by
  subst hn
  exact (OB.new w cs l hc hl (Nat.le_refl _)).rb
end

theorem by_ti : (Tryd.prog.info? 5).map (fun i => (i.zero, i.size, i.bytes)) = some (some (.int .u8 0), 1, 1) := by kernel_rfl
theorem by_tu : Tryd.prog.underlying 74 = some (.slice 5) := by kernel_rfl
theorem by_info : ∃ i, Tryd.prog.info? 5 = some i ∧ i.zero = some (.int .u8 0) ∧ i.size = 1 ∧ i.bytes = 1 := by
  have h := by_ti
  cases hi : Tryd.prog.info? 5 with
  | none => rw [hi] at h; cases h
  | some i =>
    rw [hi] at h
    simp only [Option.map_some, Option.some.injEq, Prod.mk.injEq] at h
    exact ⟨i, rfl, h⟩

@[go_sem] theorem eql_bytes_nil (w : World) (a : Option Addr) (n c : Nat) : (binOp .eql 74 (.slice a n c) (.slice none 0 0)).run Tryd.prog w = .ok (.bool a.isNone) w := Lib.run_eql_slice_nil w _ _ a n c 0 0 by_tu

set_option maxRecDepth 100000 in
theorem run_append_nothing (w : World) {B : Nat} {v : Value} {l : List UInt8} (h : OB B w v l) (p : Option Addr) (c : Nat) :
    (Builtin.append_ #[74, 74] 74 #[v, .slice p 0 c]).run Tryd.prog w = .ok v w := by
  obtain ⟨i, hi, hz⟩ := by_info
  obtain ⟨⟨h0, ⟨rfl, hn⟩ | ⟨g, cap, cur, rfl, hB, hg, hn, hc, hs, ht⟩⟩, hl⟩ := h
  · cases p <;> simp [Builtin.append_, run_underlying by_tu, sizeOf, typeInfo, hi, Builtin.lenOf, Builtin.firstCells, loadCells, loadCellsFrom]
  · cases p <;> simp [Builtin.append_, run_underlying by_tu, sizeOf, typeInfo, hi, Builtin.lenOf, Builtin.firstCells, loadCells, loadCellsFrom, hn, storeCells]

set_option maxRecDepth 100000 in
/-- append to a row of the call's own. -/
theorem run_append_OB {w : World} {B : Nat} {v x : Value} {l m : List UInt8} (h : OB B w v l) (hr : RB w x m) (hlen : l.length + m.length ≤ 140737488355328) (hB : B ≤ w.heap.size) :
    ∃ v' w', (Builtin.append_ #[74, 74] 74 #[v, x]).run Tryd.prog w = .ok v' w' ∧ OB B w' v' (l ++ m) ∧ w.grownBy w' v.ownBlock ∧ (v'.ownBlock = v.ownBlock ∨ v'.ownBlock = some w.heap.size) := by
  obtain ⟨i, hi, hz⟩ := by_info
  obtain ⟨p, c, rfl, h1, h2, h3, hc⟩ := hr
  by_cases hm : m = []
  · subst hm
    exact ⟨v, w, run_append_nothing w h p c, by simpa using h, World.grownBy.refl w _, .inl rfl⟩
  · obtain ⟨b, r, rfl⟩ : ∃ b r, m = b :: r := by cases m with | nil => exact absurd rfl hm | cons b r => exact ⟨b, r, rfl⟩
    obtain ⟨g, o, rfl, hg, _⟩ := hc 0 b rfl
    obtain ⟨v', w', hrun, ho, hgr, _, hat⟩ := run_append_own_at (P := Tryd.prog) w B 74 74 5 i (.int .u8 0) 1 1 by_tu hi hz.1 hz.2.1 hz.2.2 rfl (by decide) v l.length (l.map bv) h.1 ⟨g, o, none⟩ (b :: r).length c ((b :: r).map bv) (by simp)
      (fun j u hj => by
        rw [List.getElem?_map] at hj
        cases hb : (b :: r)[j]? with
        | none => rw [hb] at hj; cases hj
        | some b' =>
          rw [hb] at hj
          cases hj
          obtain ⟨g', o', e, _, hcell⟩ := hc j b' hb
          injection e with e
          injection e with e1 e2
          subst e1 e2
          rw [add_flat]
          exact hcell)
      (fun u hu => by
        obtain ⟨b', _, rfl⟩ := List.mem_map.1 hu
        rfl) (by simp only [maxLen]; omega) (by omega) hB
    refine ⟨v', w', hrun, ⟨?_, by simpa using hlen⟩, hgr, hat⟩
    rw [List.length_append, List.map_append]
    exact ho

set_option maxRecDepth 100000 in
/-- append at the operation. -/
theorem wpList_append_OB {w : World} {ops : Array Oper} {rest : List Oper} {o : Oper} {a : Act} {Q : Exit → Act → World → Prop} (hgd : o.guard = none) (s x : Operand)
    (ho : o.op = .call { callee := .builtin .append, args := #[s, x], argTypes := #[74, 74] }) (hty : o.type = 74) {B : Nat} {v xv : Value} {l m : List UInt8}
    (hs : a.eval s = v) (hx : a.eval x = xv) (h : OB B w v l) (hr : RB w xv m) (hlen : l.length + m.length ≤ 140737488355328) (hB : B ≤ w.heap.size)
    (hk : ∀ v' w', OB B w' v' (l ++ m) → w.grownBy w' v.ownBlock → (v'.ownBlock = v.ownBlock ∨ v'.ownBlock = some w.heap.size) → wpList Tryd.prog ops Q rest (a.put o.dst v') w') : wpList Tryd.prog ops Q (o :: rest) a w := by
  refine wpList_plain hgd fun K hK => ?_
  obtain ⟨v', w', hrun, h2, h3, h4⟩ := run_append_OB h hr hlen hB
  unfold Oper.wp execOp
  simp only [ho, hty, resolve, invoke, builtin, Sem.run_bind, Sem.run_pure, Result.andThen_ok, List.map_toArray, List.map_cons, List.map_nil, hs, hx, hrun]
  exact hK _ _ (hk v' w' h2 h3 h4)
end Go.Proofs.YtckbckdaffdjmaaDoor
