/- Rows of lists of words that grow; a word behind a list of the call's own. -/
import Derived.Test.YtckbckdaffdjmaaDoorRmCount
import Derived.Maps.AppendAt
import Derived.Laws.OwnMore
namespace Go.Proofs.YtckbckdaffdjmaaDoor
open Go.RowKit
set_option maxRecDepth 100000
set_option linter.unusedVariables false
set_option linter.unusedSimpArgs false

theorem ls_tu : Tryd.prog.underlying 29 = some (.slice 22) := by kernel_rfl
theorem ls_ti : (Tryd.prog.info? 22).map (fun i => (i.zero, i.size, i.bytes)) = some (some (.slice none 0 0), 1, 24) := by kernel_rfl
theorem ls_info : ∃ i, Tryd.prog.info? 22 = some i ∧ i.zero = some (.slice none 0 0) ∧ i.size = 1 ∧ i.bytes = 24 := by
  have h := ls_ti
  cases hi : Tryd.prog.info? 22 with
  | none => rw [hi] at h; cases h
  | some i =>
    rw [hi] at h
    simp only [Option.map_some, Option.some.injEq, Prod.mk.injEq] at h
    exact ⟨i, rfl, h⟩
/-- A row of the call's own that holds slices. -/
def VU (B : Nat) (w : World) (v : Value) (vs : List Value) : Prop := w.ownsRow B 22 1 v vs.length vs
section
variable {w w' w1 w2 : World} {B : Nat} {v x : Value} {vs : List Value}
theorem VU.nil_ : VU B w (.slice none 0 0) [] := World.ownsRow_nil w B _ 1
theorem VU.lt (h : VU B w v vs) : ∀ k, v.ownBlock = some k → B ≤ k ∧ k < w.heap.size := World.ownsRow.lt h
theorem VU.at_ (h : VU B w v vs) (he : ∀ g, v.ownBlock = some g → w'.heap[g]? = w.heap[g]?) : VU B w' v vs := by
  obtain ⟨h0, ⟨e1, e2⟩ | ⟨g, cap, cur, e, hB, hg, hr⟩⟩ := h
  · exact ⟨h0, .inl ⟨e1, e2⟩⟩
  · exact ⟨h0, .inr ⟨g, cap, cur, e, hB, (he g (by rw [e]; rfl)).trans hg, hr⟩⟩
/-- The row's form where it holds something. -/
theorem VU.get (h : VU B w v vs) {i : Nat} {u : Value} (hu : vs[i]? = some u) : ∃ g cap, v = .slice (some ⟨g, 0, none⟩) vs.length cap ∧ g < w.heap.size ∧ w.cell? ⟨g, i, none⟩ = some u := by
  have hi : i < vs.length := (List.getElem?_eq_some_iff.1 hu).1
  obtain ⟨h0, ⟨e1, e2⟩ | ⟨g, cap, cur, e, hB, hg, hr⟩⟩ := h
  · omega
  · have hc := World.ownsRow.cells (w := w) (base := B) (e := 22) (size := 1) (v := v) (n := vs.length) (xs := vs) ⟨h0, .inr ⟨g, cap, cur, e, hB, hg, hr⟩⟩ (g := g) (by rw [e]; rfl) i u hu
    rw [add_flat, Nat.zero_add] at hc
    exact ⟨g, cap, e, heap_lt hg, hc⟩
theorem VU.form (h : VU B w v vs) : ∃ p cap, v = .slice p vs.length cap := by
  obtain ⟨h0, ⟨e1, e2⟩ | ⟨g, cap, cur, e, hr⟩⟩ := h
  · exact ⟨none, 0, by rw [e1, e2]⟩
  · exact ⟨_, cap, e⟩
theorem VU.append (h : VU B w v vs) {a : Nat} (hx : w.cell? ⟨a, 0, none⟩ = some x) (h1 : x.oneCell' = true) (hlen : vs.length + 1 ≤ 5864062014805) (hB : B ≤ w.heap.size) :
    ∃ v' w', (Builtin.append_ #[29, 29] 29 #[v, .slice (some ⟨a, 0, none⟩) 1 1]).run Tryd.prog w = .ok v' w' ∧ VU B w' v' (vs ++ [x]) ∧ w.grownBy w' v.ownBlock ∧ (v'.ownBlock = v.ownBlock ∨ v'.ownBlock = some w.heap.size) := by
  obtain ⟨i, hi, hz, hs, hb⟩ := ls_info
  have hm : maxLen = 9223372036854775807 := rfl
  obtain ⟨v', w', h1', h2', h3', -, h5'⟩ := run_append_own_at (P := Tryd.prog) w B 29 29 22 i (.slice none 0 0) 1 24 ls_tu hi hz hs hb rfl (by decide) v vs.length vs h ⟨a, 0, none⟩ 1 1 [x] rfl
    (fun j u hj => by
      match j, hj with
      | 0, hj =>
        simp at hj
        subst hj
        rw [add_flat]
        exact hx) (fun u hu => by simp at hu; subst hu; exact h1) (by rw [hm]; omega) (by omega) hB
  exact ⟨v', w', h1', by unfold VU; rw [List.length_append]; exact h2', h3', h5'⟩
theorem VU.one (h : VU B w x vs) : x.oneCell' = true := by
  obtain ⟨p, c, e⟩ := h.form
  rw [e]; rfl
theorem VU.grown {y : Option Nat} (h : VU B w x vs) (hg : w.grownBy w' y) (hne : ∀ k, x.ownBlock = some k → y ≠ some k) : VU B w' x vs := h.at_ fun k e => hg.block k (h.lt k e).2 (fun e' => hne k e e'.symm)
theorem VU.mod {F : Nat → Prop} (h : VU B w x vs) (hm : Mod F w w') (hf : ∀ g, x.ownBlock = some g → ¬ F g) : VU B w' x vs := h.at_ fun g e => hm.block g (h.lt g e).2 (hf g e)
end
theorem OU.mod {F : Nat → Prop} {w w' : World} {B : Nat} {x : Value} {l : List UInt64} (h : OU B w x l) (hm : Mod F w w') (hf : ∀ g, x.ownBlock = some g → ¬ F g) : OU B w' x l := h.at_ fun g e => hm.block g (h.lt g e).2 (hf g e)
theorem Mod.grown {F : Nat → Prop} {w w' : World} {y : Option Nat} (h : w.grownBy w' y) (hy : ∀ k, y = some k → k < w.heap.size → F k) : Mod F w w' :=
  ⟨h.os, h.tape, h.output, h.size, fun k hk hf => h.block k hk (fun e => hf (hy k e.symm hk))⟩
/-- append of one byte to a row of the call's own: what the old row held it holds. -/
theorem run_append_word {w : World} {B : Nat} {v x : Value} {l : List UInt64} {b : UInt64} (h : OU B w v l) (hr : RU w x [b]) (hlen : l.length + 1 ≤ 17592186044416) (hB : B ≤ w.heap.size) :
    ∃ v' w', (Builtin.append_ #[22, 22] 22 #[v, x]).run Tryd.prog w = .ok v' w' ∧ OU B w' v' (l ++ [b]) ∧ w.grownBy w' v.ownBlock ∧ (v'.ownBlock = v.ownBlock ∨ v'.ownBlock = some w.heap.size) ∧
      ∀ g i, v.ownBlock = some g → i < l.length → w'.cell? ⟨g, i, none⟩ = w.cell? ⟨g, i, none⟩ := by
  obtain ⟨v', w', hrun, h1, h2, h3⟩ := run_append_OU h hr hlen hB
  refine ⟨v', w', hrun, h1, h2, h3, fun g i hg hi => ?_⟩
  obtain ⟨inf, hi', hz⟩ := uy_info
  obtain ⟨p, c, rfl, k1, k2, k3, hc⟩ := hr
  obtain ⟨ga, oa, rfl, hga, hca⟩ := hc 0 b rfl
  have hnews : ∀ j u, [uv b][j]? = some u → w.cell? ((⟨ga, oa, none⟩ : Addr).add j) = some u := fun j u hj => by
    match j, hj with
    | 0, hj =>
      simp at hj
      subst hj
      rw [add_flat]
      exact hca
  obtain ⟨⟨h0, ⟨e1, e2⟩ | ⟨g', cap, cur, e, hBg, hgg, hn, hcm, hcs, htk⟩⟩, hl⟩ := h
  · rw [e1] at hg; cases hg
  · subst e
    have hgeq : g' = g := by have : some g' = some g := hg; injection this
    subst hgeq
    rw [Nat.mul_one] at hcs
    by_cases hroom : l.length + 1 ≤ cap
    · have hrm := run_append_room (P := Tryd.prog) w 22 22 58 inf uy_tu hi' g' l.length cap cur hgg ⟨ga, oa, none⟩ 1 c [uv b] (by rw [hz.2.1]; rfl) hnews (fun u hu => by simp at hu; subst hu; rfl) hroom (by rw [hz.2.1, Nat.mul_one, hcs]; exact hroom)
      have hrun' := hrun
      rw [show [b].length = 1 from rfl, hrm] at hrun'
      injection hrun' with _ hw
      rw [← hw, has_cell (setRow_heap w g' cur _ _ _ hgg), has_cell hgg]
      rw [hz.2.1, Nat.mul_one]
      have hcl : cur.toList.length = cap := by simpa using hcs
      rw [List.getElem?_toArray, List.append_assoc, List.getElem?_append_left (by rw [List.length_take]; omega), List.getElem?_take, if_pos hi]
      simp
    · have hgw := run_append_grow (P := Tryd.prog) w 22 22 58 inf (.int .u64 0) uy_tu hi' hz.1 ⟨g', 0, none⟩ l.length cap (l.map uv) (by rw [hz.2.1]; simp) (fun j u hj => by
          have := World.ownsRow.cells (w := w) (base := B) (e := 58) (size := 1) (n := l.length) (xs := l.map uv) ⟨h0, .inr ⟨g', cap, cur, rfl, hBg, hgg, hn, hcm, by rw [Nat.mul_one]; exact hcs, htk⟩⟩ (g := g') rfl j u hj
          exact this) ⟨ga, oa, none⟩ 1 c [uv b] (by rw [hz.2.1]; rfl) hnews (by omega) (by omega) (growslice_fits (by omega) (by rw [hz.2.2]; omega))
      have hrun' := hrun
      rw [show [b].length = 1 from rfl, hgw] at hrun'
      injection hrun' with _ hw
      rw [← hw]
      exact World.cell?_of_block (heap_alloc_old w.drew _ (heap_lt hgg))
set_option maxRecDepth 100000 in
theorem wpList_append_word {w : World} {ops : Array Oper} {rest : List Oper} {o : Oper} {a : Act} {Q : Exit → Act → World → Prop} (hgd : o.guard = none) (s x : Operand)
    (ho : o.op = .call { callee := .builtin .append, args := #[s, x], argTypes := #[22, 22] }) (hty : o.type = 22) {B : Nat} {v xv : Value} {l : List UInt64} {b : UInt64}
    (hs : a.eval s = v) (hx : a.eval x = xv) (h : OU B w v l) (hr : RU w xv [b]) (hlen : l.length + 1 ≤ 17592186044416) (hB : B ≤ w.heap.size)
    (hk : ∀ v' w', OU B w' v' (l ++ [b]) → w.grownBy w' v.ownBlock → (v'.ownBlock = v.ownBlock ∨ v'.ownBlock = some w.heap.size) → (∀ g i, v.ownBlock = some g → i < l.length → w'.cell? ⟨g, i, none⟩ = w.cell? ⟨g, i, none⟩) → wpList Tryd.prog ops Q rest (a.put o.dst v') w') : wpList Tryd.prog ops Q (o :: rest) a w := by
  refine wpList_plain hgd fun K hK => ?_
  obtain ⟨v', w', hrun, h2, h3, h4, h5⟩ := run_append_word h hr hlen hB
  unfold Oper.wp execOp
  simp only [ho, hty, resolve, invoke, builtin, Sem.run_bind, Sem.run_pure, Result.andThen_ok, List.map_toArray, List.map_cons, List.map_nil, hs, hx, hrun]
  exact hK _ _ (hk v' w' h2 h3 h4 h5)
/-- append to a row of lists, at the operation. -/
theorem wpList_append_VU {w : World} {ops : Array Oper} {rest : List Oper} {o : Oper} {a : Act} {Q : Exit → Act → World → Prop} (hgd : o.guard = none) (s x : Operand)
    (ho : o.op = .call { callee := .builtin .append, args := #[s, x], argTypes := #[29, 29] }) (hty : o.type = 29) {B : Nat} {v u : Value} {vs : List Value} (ad : Nat)
    (hs : a.eval s = v) (hx : a.eval x = .slice (some ⟨ad, 0, none⟩) 1 1) (h : VU B w v vs) (hc : w.cell? ⟨ad, 0, none⟩ = some u) (h1 : u.oneCell' = true) (hlen : vs.length + 1 ≤ 5864062014805) (hB : B ≤ w.heap.size)
    (hk : ∀ v' w', VU B w' v' (vs ++ [u]) → w.grownBy w' v.ownBlock → (v'.ownBlock = v.ownBlock ∨ v'.ownBlock = some w.heap.size) → wpList Tryd.prog ops Q rest (a.put o.dst v') w') : wpList Tryd.prog ops Q (o :: rest) a w := by
  refine wpList_plain hgd fun K hK => ?_
  obtain ⟨v', w', hrun, h2, h3, h4⟩ := h.append hc h1 hlen hB
  unfold Oper.wp execOp
  simp only [ho, hty, resolve, invoke, builtin, Sem.run_bind, Sem.run_pure, Result.andThen_ok, List.map_toArray, List.map_cons, List.map_nil, hs, hx, hrun]
  exact hK _ _ (hk v' w' h2 h3 h4)
theorem grown_setCell (w : World) (b o : Nat) (v : Value) : w.grownBy (w.setCell ⟨b, o, none⟩ v) (some b) := by
  have h := Mod.setCell (F := fun k => k = b) w b o v rfl
  exact ⟨h.os, h.tape, h.output, h.size, fun k hk hne => h.block k hk (fun e => hne (by rw [e]))⟩
/-- A word laid into a list of the call's own. -/
theorem OU.store {B : Nat} {w : World} {q : Option Addr} {n c : Nat} {l : List UInt64} (h : OU B w (.slice q n c) l) {i : Nat} (hi : i < l.length) (y : UInt64) :
    ∃ g z, q = some ⟨g, 0, none⟩ ∧ g < w.heap.size ∧ w.cell? ⟨g, i, none⟩ = some (uv z) ∧ w.frozen? ⟨g, i, none⟩ = false ∧ OU B (w.setCell ⟨g, i, none⟩ (uv y)) (.slice q n c) (l.set i y) ∧ w.grownBy (w.setCell ⟨g, i, none⟩ (uv y)) (some g) := by
  obtain ⟨⟨h0, ⟨e, hn⟩ | ⟨g, cap, cur, e, hB, hg, hn, hc, hs, ht⟩⟩, hl⟩ := h
  · omega
  · simp only [Value.slice.injEq] at e
    obtain ⟨rfl, rfl, rfl⟩ := e
    rw [Nat.mul_one] at hs ht
    have hrw : Rw w g 58 cur.toList := by simpa using hg
    have hcell : (cur.toList)[i]? = some (uv (l[i])) := by
      have h1 : (cur.toList.take l.length)[i]? = some (uv (l[i])) := by rw [ht]; simp [hi]
      rwa [List.getElem?_take, if_pos hi] at h1
    refine ⟨g, l[i], rfl, heap_lt hg, hrw.cell hcell, hrw.frozen i, ⟨⟨by simp, .inr ⟨g, c, (cur.toList.set i (uv y)).toArray, by rw [List.length_set], hB, hrw.set i (uv y), by rw [List.length_set]; exact hn, hc, by rw [Nat.mul_one]; simpa using hs, ?_⟩⟩, by rw [List.length_set]; exact hl⟩, (grown_setCell w g i (uv y))⟩
    rw [Nat.mul_one, List.length_set, List.map_set, ← ht]
    show (cur.toList.set i (uv y)).take l.length = _
    rw [List.take_set]
end Go.Proofs.YtckbckdaffdjmaaDoor
