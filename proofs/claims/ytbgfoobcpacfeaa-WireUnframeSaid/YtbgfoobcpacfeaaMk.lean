/- A row of bytes that the call makes (Mk): all below B as in W, the row from B on. Appending, copying, storing. -/
import Derived.Test.YtbgfoobcpacfeaaBy
import Derived.Laws.CopyOwn
namespace Go.Proofs.Ytbgfoobcpacfeaa
open Go.RowKit
set_option linter.unusedVariables false
set_option linter.unusedSimpArgs false

/-- w is W, grown from B on; there v holds l. -/
structure Mk (B : Nat) (W w : World) (v : Value) (l : List UInt8) : Prop where
  hB : B ≤ W.heap.size
  below : Below B W w
  own : OB B w v l

section
variable {B : Nat} {W w w' : World} {v v' x : Value} {l m : List UInt8}
theorem Mk.size (h : Mk B W w v l) : B ≤ w.heap.size := Nat.le_trans h.hB h.below.size
theorem Mk.nil_ (hB : B ≤ W.heap.size) (hb : Below B W w) : Mk B W w (.slice none 0 0) [] := ⟨hB, hb, OB.nil_ B w⟩
theorem Mk.behind (h : Mk B W w v l) (hb : Below w.heap.size w w') : Mk B W w' v l := ⟨h.hB, h.below.trans (hb.mono h.size), h.own.below hb⟩
theorem Mk.alloc (h : Mk B W w v l) (o : Obj) : Mk B W (w.alloc o) v l := h.behind (below_alloc1 w o)
theorem Mk.grown (h : Mk B W w v l) (hg : w.grownBy w' v.ownBlock) (ho : OB B w' v' m) : Mk B W w' v' m :=
  ⟨h.hB, h.below.grown hg h.size (fun k hk => (h.own.lt k hk).1), ho⟩
theorem Mk.len (h : Mk B W w v l) : l.length ≤ 140737488355328 := h.own.2
theorem Mk.rb (h : Mk B W w v l) : RB w v l := h.own.rb
/-- What was read ahead reads on. -/
theorem Mk.keep (h : Mk B W w v l) (hr : RB W x m) (hx : m ≠ [] → ∀ g, x.ownBlock = some g → g < B) : RB w x m := hr.belowB h.below hx
theorem Mk.lit (hB : B ≤ W.heap.size) (hb : Below B W w) (cs : Array Value) (l : List UInt8) (n : Nat) (hc : cs = (l.map bv).toArray) (hn : n = l.length) (hl : l.length ≤ 140737488355328) :
    Mk B W (w.alloc (.cells cs 5)) (.slice (some ⟨w.heap.size, 0, none⟩) n n) l := by
  subst hn
  have hs := Nat.le_trans hB hb.size
  exact ⟨hB, hb.trans ((below_alloc1 w _).mono hs), OB.new w cs l hc hl hs⟩
end

/-- append at the operation. -/
theorem wpList_append_Mk {B : Nat} {W w : World} {ops : Array Oper} {rest : List Oper} {o : Oper} {a : Act} {Q : Exit → Act → World → Prop} (v : Value) (m : List UInt8) (s x : Operand) {xv : Value} {l : List UInt8} (hgd : o.guard = none)
    (ho : o.op = .call { callee := .builtin .append, args := #[s, x], argTypes := #[23, 23] }) (hty : o.type = 23)
    (hs : a.eval s = v) (hx : a.eval x = xv) (h : Mk B W w v l) (hr : RB w xv m) (hlen : l.length + m.length ≤ 140737488355328)
    (hk : ∀ v' w', Mk B W w' v' (l ++ m) → wpList Try.prog ops Q rest (a.put o.dst v') w') : wpList Try.prog ops Q (o :: rest) a w :=
  wpList_append_OB hgd s x ho hty hs hx h.own hr hlen h.size fun v' w' h2 h3 _ => hk v' w' (h.grown h3 h2)

theorem by_sz : (Try.prog.info? 5).map (·.size) = some 1 := by
  have h := by_ti
  cases hi : Try.prog.info? 5 with
  | none => rw [hi] at h; cases h
  | some i =>
    rw [hi] at h
    simp only [Option.map_some, Option.some.injEq, Prod.mk.injEq] at h
    simp [h.2.1]

/-- Bytes laid over a row of the call's own, from a place on. -/
theorem run_copy_OB {w : World} {B g n cap off dl dc : Nat} {l m : List UInt8} {x : Value} (h : OB B w (.slice (some ⟨g, 0, none⟩) n cap) l) (hr : RB w x m) (hoff : off + m.length ≤ l.length) (hdl : m.length ≤ dl) :
    ∃ w', (Builtin.copy_ #[23, 23] 3 #[.slice (some ⟨g, off, none⟩) dl dc, x]).run Try.prog w = .ok (goInt m.length) w' ∧ OB B w' (.slice (some ⟨g, 0, none⟩) n cap) (l.take off ++ (m ++ l.drop (off + m.length))) ∧ w.grownBy w' (some g) := by
  obtain ⟨⟨h0, ⟨e, _⟩ | ⟨g', cap', cur, e, hB, hg, hn, hc, hs, ht⟩⟩, hl⟩ := h
  · cases e
  simp only [Value.slice.injEq, Option.some.injEq, Addr.mk.injEq, and_true, true_and] at e
  obtain ⟨e1, e2, e3⟩ := e
  subst e1 e2 e3
  obtain ⟨p, c, rfl, h1, h2, h3, hcell⟩ := hr
  by_cases hm : m = []
  · subst hm
    refine ⟨w, ?_, ⟨⟨by simp, .inr ⟨g, cap, cur, by simp, hB, hg, by simpa using hn, hc, hs, by simpa using ht⟩⟩, by simpa using hl⟩, World.grownBy.refl w _⟩
    exact run_copy_none (P := Try.prog) w 23 23 3 5 _ p dl dc 0 c by_tu by_sz (Nat.zero_min dl)
  · obtain ⟨b, r, rfl⟩ : ∃ b r, m = b :: r := by cases m with | nil => exact absurd rfl hm | cons b r => exact ⟨b, r, rfl⟩
    obtain ⟨ga, oa, rfl, hga, _⟩ := hcell 0 b rfl
    generalize hmm : b :: r = m at *
    have hrun := run_copy_row (P := Try.prog) w 23 23 3 5 g off dl dc ⟨ga, oa, none⟩ m.length c cur 5 (m.map bv) by_tu by_sz hg (by rw [List.length_map]; exact (Nat.min_eq_left hdl).symm)
      (fun j u hj => by
        rw [List.getElem?_map] at hj
        cases hb : m[j]? with
        | none => rw [hb] at hj; cases hj
        | some b' =>
          rw [hb] at hj
          cases hj
          obtain ⟨g', o', e, _, hx⟩ := hcell j b' hb
          simp only [Option.some.injEq, Addr.mk.injEq, and_true] at e
          rw [add_flat, e.1, e.2]
          exact hx)
      (by rw [List.length_map, hs]; omega)
      (fun u hu => by
        obtain ⟨b', _, rfl⟩ := List.mem_map.1 hu
        rfl)
    rw [List.length_map] at hrun
    have hll : (l.take off ++ (m ++ l.drop (off + m.length))).length = l.length := by simp; omega
    refine ⟨_, hrun, ⟨⟨by simp, .inr ⟨g, cap, _, by rw [hll], hB, setRow_heap w g cur _ _ _ hg, by rw [hll]; exact hn, hc, ?_, ?_⟩⟩, by rw [hll]; exact hl⟩, ⟨rfl, rfl, rfl, by simp [World.setRow], fun k _ hk => setRow_other w g k _ (fun e => hk (by rw [e]))⟩⟩
    · simp; omega
    · rw [hll]
      have hcl : cur.toList.length = cap := by simpa using hs
      simp only [Nat.mul_one] at ht ⊢
      have e1 : cur.toList.take off = (l.map bv).take off := by rw [← ht, List.take_take, Nat.min_eq_left (by omega)]
      have e2 : (cur.toList.drop (off + m.length)).take (l.length - (off + m.length)) = (l.map bv).drop (off + m.length) := by rw [← ht, List.drop_take]
      simp only [List.map_append, List.map_take, List.map_drop]
      rw [← e1, ← e2, List.take_append, List.take_append]
      have l1 : (cur.toList.take off).length = off := by rw [List.length_take]; omega
      have l2 : (m.map bv).take (l.length - off) = m.map bv := List.take_of_length_le (by rw [List.length_map]; omega)
      have l3 : (cur.toList.take off).take l.length = cur.toList.take off := List.take_of_length_le (by omega)
      rw [List.length_append, l1, l2, List.length_map, List.append_assoc, l3]

/-- copy at the operation. -/
theorem wpList_copy_Mk {B : Nat} {W w : World} {ops : Array Oper} {rest : List Oper} {o : Oper} {a : Act} {Q : Exit → Act → World → Prop} (g n cap off : Nat) (m : List UInt8) (d s : Operand) {dl dc : Nat} {xv : Value} {l : List UInt8} (hgd : o.guard = none)
    (ho : o.op = .call { callee := .builtin .copy, args := #[d, s], argTypes := #[23, 23] }) (hty : o.type = 3)
    (hd : a.eval d = .slice (some ⟨g, off, none⟩) dl dc) (hs : a.eval s = xv) (h : Mk B W w (.slice (some ⟨g, 0, none⟩) n cap) l) (hr : RB w xv m) (hoff : off + m.length ≤ l.length) (hdl : m.length ≤ dl)
    (hk : ∀ w', Mk B W w' (.slice (some ⟨g, 0, none⟩) n cap) (l.take off ++ (m ++ l.drop (off + m.length))) → wpList Try.prog ops Q rest (a.put o.dst (goInt m.length)) w') : wpList Try.prog ops Q (o :: rest) a w := by
  refine wpList_plain hgd fun K hK => ?_
  obtain ⟨w', hrun, h2, h3⟩ := run_copy_OB (dl := dl) (dc := dc) h.own hr hoff hdl
  unfold Oper.wp execOp
  simp only [ho, hty, resolve, invoke, builtin, Sem.run_bind, Sem.run_pure, Result.andThen_ok, List.map_toArray, List.map_cons, List.map_nil, hd, hs, hrun]
  exact hK _ _ (hk w' (h.grown h3 h2))

/-- For a drawn region: a row, then a row that came of it. -/
def RMa (B : Nat) (W : World) (v : Value) (l l' : List UInt8) : List Value → World → Prop
  | [], w => Mk B W w v l
  | [u], w => Mk B W w u l'
  | _, _ => False
/-- For a drawn region: a row, then beside it a list of bytes. -/
def RMb (B : Nat) (W : World) (v : Value) (l m : List UInt8) : List Value → World → Prop
  | [], w => Mk B W w v l
  | [u], w => Mk B W w v l ∧ RB w u m
  | _, _ => False
section
variable {B : Nat} {W w w' : World} {v : Value} {l l' m : List UInt8} {g : List Value}
theorem RMa.below (h : RMa B W v l l' g w) : Below B W w := by
  match g, h with
  | [], h => exact Mk.below h
  | [u], h => exact Mk.below h
  | _ :: _ :: _, h => exact h.elim
theorem RMa.mono (g : List Value) (w w' : World) (h : RMa B W v l l' g w) (hb : Below w.heap.size w w') : RMa B W v l l' g w' := by
  match g, h with
  | [], h => exact Mk.behind h hb
  | [u], h => exact Mk.behind h hb
  | _ :: _ :: _, h => exact h.elim
theorem RMb.below (h : RMb B W v l m g w) : Below B W w := by
  match g, h with
  | [], h => exact Mk.below h
  | [u], h => exact h.1.below
  | _ :: _ :: _, h => exact h.elim
theorem RMb.row (h : RMb B W v l m g w) : Mk B W w v l := by
  match g, h with
  | [], h => exact h
  | [u], h => exact h.1
  | _ :: _ :: _, h => exact h.elim
theorem RMb.mono (g : List Value) (w w' : World) (h : RMb B W v l m g w) (hb : Below w.heap.size w w') : RMb B W v l m g w' := by
  match g, h with
  | [], h => exact Mk.behind h hb
  | [u], h => exact ⟨h.1.behind hb, h.2.below hb⟩
  | _ :: _ :: _, h => exact h.elim
end
end Go.Proofs.Ytbgfoobcpacfeaa
