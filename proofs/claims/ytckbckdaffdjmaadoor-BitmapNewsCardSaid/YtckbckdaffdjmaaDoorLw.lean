/- The cells of an argument, leaf by leaf, with the bound of what its slices weigh; slices of bytes among them. -/
import Derived.Test.YtckbckdaffdjmaaDoorBy
namespace Go.Proofs.YtckbckdaffdjmaaDoor
open Go.ChangeShapes Go.WideShapes Go.ChangeAt Go.RowKit
set_option maxRecDepth 100000
set_option linter.unusedVariables false
set_option linter.unusedSimpArgs false

section
variable {H : Type} {enc : TypeId × Value → H} {P : Program} {w : World} {base : Nat} {spare : Nat → Bool} {held : Bool} {R : Nat}

/-- A cell is what its leaf says; its slices weigh at most R. -/
def LeafW (enc : TypeId × Value → H) (P : Program) (w : World) (base : Nat) (spare : Nat → Bool) (held : Bool) (R : Nat) : Leaf → Value → Prop
  | .int k, v => ∃ n, v = .int k n ∧ (Lit.int k n).wf = true
  | .bool, v => ∃ b, v = .bool b
  | .str, v => ∃ s, v = .string s ∧ s.size ≤ maxLen
  | .other t, v => ∃ fuel x, DataW.trod enc P w base spare held fuel t [v] = some x ∧ ∀ n ∈ x.1.weights P t, n ≤ R

inductive LeavesW (enc : TypeId × Value → H) (P : Program) (w : World) (base : Nat) (spare : Nat → Bool) (held : Bool) (R : Nat) : List Leaf → List Value → Prop
  | nil : LeavesW enc P w base spare held R [] []
  | cons {l : Leaf} {v : Value} {ls : List Leaf} {vs : List Value} : LeafW enc P w base spare held R l v → LeavesW enc P w base spare held R ls vs → LeavesW enc P w base spare held R (l :: ls) (v :: vs)

theorem LeavesW.append {a b : List Leaf} {u v : List Value} (h : LeavesW enc P w base spare held R a u) (k : LeavesW enc P w base spare held R b v) : LeavesW enc P w base spare held R (a ++ b) (u ++ v) := by
  induction h with
  | nil => exact k
  | cons h1 _ ih => exact .cons h1 ih
theorem LeavesW.uncons {l : Leaf} {ls : List Leaf} {cs : List Value} (h : LeavesW enc P w base spare held R (l :: ls) cs) : ∃ v vs, cs = v :: vs ∧ LeafW enc P w base spare held R l v ∧ LeavesW enc P w base spare held R ls vs := by
  cases h with
  | cons a b => exact ⟨_, _, rfl, a, b⟩
theorem LeavesW.unnil {cs : List Value} (h : LeavesW enc P w base spare held R [] cs) : cs = [] := by cases h; rfl
theorem LeavesW.int {k : IntKind} {ls : List Leaf} {cs : List Value} (h : LeavesW enc P w base spare held R (.int k :: ls) cs) : ∃ n vs, cs = .int k n :: vs ∧ (Lit.int k n).wf = true ∧ LeavesW enc P w base spare held R ls vs := by
  obtain ⟨v, vs, rfl, ⟨n, rfl, hn⟩, r⟩ := h.uncons
  exact ⟨n, vs, rfl, hn, r⟩
theorem LeavesW.bool {ls : List Leaf} {cs : List Value} (h : LeavesW enc P w base spare held R (.bool :: ls) cs) : ∃ b vs, cs = .bool b :: vs ∧ LeavesW enc P w base spare held R ls vs := by
  obtain ⟨v, vs, rfl, ⟨n, rfl⟩, r⟩ := h.uncons
  exact ⟨n, vs, rfl, r⟩
theorem LeavesW.other {t : TypeId} {ls : List Leaf} {cs : List Value} (h : LeavesW enc P w base spare held R (.other t :: ls) cs) : ∃ v vs, cs = v :: vs ∧ (∃ fuel x, DataW.trod enc P w base spare held fuel t [v] = some x ∧ ∀ n ∈ x.1.weights P t, n ≤ R) ∧ LeavesW enc P w base spare held R ls vs := by
  obtain ⟨v, vs, rfl, hv, r⟩ := h.uncons
  exact ⟨v, vs, rfl, hv, r⟩

theorem weights_mem_all {e : TypeId} : ∀ {ds : List (DataW H)} {j : Nat} {d : DataW H}, ds[j]? = some d → ∀ n ∈ d.weights P e, n ∈ DataW.weightsAll P e ds
  | d0 :: ds, 0, d, hd, n, hn => by
    simp only [List.getElem?_cons_zero, Option.some.injEq] at hd
    subst hd
    simp only [DataW.weightsAll, List.mem_append]
    exact Or.inl hn
  | d0 :: ds, j + 1, d, hd, n, hn => by
    simp only [List.getElem?_cons_succ] at hd
    simp only [DataW.weightsAll, List.mem_append]
    exact Or.inr (weights_mem_all hd n hn)
  | [], _, _, hd, _, _ => by simp at hd

mutual
theorem leaves_okW : ∀ (n : Nat) (t : TypeId) (ls : List Leaf) (fuel : Nat) (cs : List Value) (x : DataW H × List MemPlace), leaves P n t = some ls →
    DataW.trod enc P w base spare held fuel t cs = some x → (∀ n ∈ x.1.weights P t, n ≤ R) → LeavesW enc P w base spare held R ls cs
  | 0, _, _, _, _, _, h, _, _ => by simp [leaves] at h
  | n + 1, t, ls, fuel, cs, x, h, ht, hw => by
    unfold leaves at h
    split at h
    · rename_i hu
      cases h
      obtain ⟨b, rfl, _⟩ := DataW.trod_bool hu ht
      exact .cons ⟨b, rfl⟩ .nil
    · rename_i k hu
      cases h
      obtain ⟨m, rfl, _, hwf⟩ := DataW.trod_int hu ht
      exact .cons ⟨m, rfl, hwf⟩ .nil
    · rename_i hu
      cases h
      obtain ⟨s, rfl, _, hwf⟩ := DataW.trod_string hu ht
      exact .cons ⟨s, rfl, hwf⟩ .nil
    · rename_i fs hu
      split at h
      · rename_i hc
        simp only [Bool.and_eq_true, beq_iff_eq] at hc
        obtain ⟨xs, m, rfl, rfl, hl, hxl, hf⟩ := DataW.trod_struct hu ht
        refine leavesAll_okW n fs.toList ls m cs 0 h hc.1 ?_ ?_
        · rw [Nat.zero_add, hc.2]; exact hl
        · intro i f hif
          have hi : fs[i]? = some f := by simpa using hif
          have hlt : i < xs.length := by
            have := (Array.getElem?_eq_some_iff.1 hi).1
            omega
          refine ⟨xs[i], by rw [hf i f hi]; exact List.getElem?_eq_getElem hlt, fun q hq => hw q ?_⟩
          simp only [DataW.weights, hu]
          exact DataW.weights_mem_each (j := i) (t := f.type) (d := xs[i].1) (by rw [List.getElem?_map, hif]; rfl) (by rw [List.getElem?_map, List.getElem?_eq_getElem hlt]; rfl) q hq
      · cases h
    · rename_i m e hu
      split at h
      · rename_i hc
        simp only [beq_iff_eq] at hc
        cases hle : leaves P n e with
        | none => rw [hle] at h; cases h
        | some l =>
          rw [hle] at h
          simp only [Option.map_some, Option.some.injEq] at h
          subst h
          obtain ⟨xs, fu, rfl, hx1, hlen, hn3, hel⟩ := DataW.trod_array hu ht
          have key : ∀ k, k ≤ m → LeavesW enc P w base spare held R (List.replicate k l).flatten (cs.take (k * P.cellsOf e)) := by
            intro k
            induction k with
            | zero => intro _; simp; exact .nil
            | succ k ih =>
              intro hk
              have h1 := ih (by omega)
              have hk' : k < xs.length := by omega
              have h2 := hel k (by omega)
              rw [List.getElem?_eq_getElem hk'] at h2
              have h3 := leaves_okW n e l fu _ _ hle h2 (fun q hq => hw q (by
                rw [hx1]
                simp only [DataW.weights, hu]
                exact weights_mem_all (j := k) (d := xs[k].1) (by rw [List.getElem?_map, List.getElem?_eq_getElem hk']; rfl) q hq))
              have e1 : (List.replicate (k + 1) l).flatten = (List.replicate k l).flatten ++ l := by
                rw [List.replicate_succ', List.flatten_append]; simp
              have e2 : cs.take ((k + 1) * P.cellsOf e) = cs.take (k * P.cellsOf e) ++ (cs.drop (k * P.cellsOf e)).take (P.cellsOf e) := by
                rw [Nat.succ_mul, List.take_add]
              rw [e1, e2]
              exact h1.append h3
          have hm := key m (Nat.le_refl _)
          rw [hc, ← hlen, List.take_length] at hm
          exact hm
      · cases h
    · rename_i e hu
      cases h
      rcases trod_length ht with ⟨v, rfl⟩ | ⟨fs, h2⟩ | ⟨m, e', h2⟩
      · exact .cons ⟨fuel, x, ht, hw⟩ .nil
      · rw [hu] at h2; cases h2
      · rw [hu] at h2; cases h2
    · rename_i e hu
      cases h
      rcases trod_length ht with ⟨v, rfl⟩ | ⟨fs, h2⟩ | ⟨m, e', h2⟩
      · exact .cons ⟨fuel, x, ht, hw⟩ .nil
      · rw [hu] at h2; cases h2
      · rw [hu] at h2; cases h2
    · cases h
theorem leavesAll_okW : ∀ (n : Nat) (fs : List Field) (ls : List Leaf) (fuel : Nat) (cs : List Value) (at_ : Nat), leavesAll P n fs = some ls → fieldsLie P fs at_ = true → cs.length = at_ + fieldsSum P fs →
    (∀ (i : Nat) (f : Field), fs[i]? = some f → ∃ x, DataW.trod enc P w base spare held fuel f.type ((cs.drop f.offset).take (P.cellsOf f.type)) = some x ∧ ∀ n ∈ x.1.weights P f.type, n ≤ R) → LeavesW enc P w base spare held R ls (cs.drop at_)
  | 0, _, _, _, _, _, h, _, _, _ => by simp [leavesAll] at h
  | n + 1, [], ls, fuel, cs, at_, h, _, hs, _ => by
    simp only [leavesAll, Option.some.injEq] at h
    subst h
    rw [List.drop_of_length_le (by simp [fieldsSum] at hs; omega)]
    exact .nil
  | n + 1, f :: r, ls, fuel, cs, at_, h, hlie, hs, hf => by
    simp only [leavesAll] at h
    split at h
    · rename_i a b ha hb
      cases h
      simp only [fieldsLie, Bool.and_eq_true, beq_iff_eq] at hlie
      obtain ⟨x, hx, hwx⟩ := hf 0 f rfl
      rw [hlie.1] at hx
      have h1 := leaves_okW n f.type a fuel _ x ha hx hwx
      have h2 := leavesAll_okW n r b fuel cs (at_ + P.cellsOf f.type) hb hlie.2 (by simp [fieldsSum] at hs; omega) (fun i g hg => hf (i + 1) g (by simpa using hg))
      have e : cs.drop at_ = (cs.drop at_).take (P.cellsOf f.type) ++ cs.drop (at_ + P.cellsOf f.type) := by
        rw [← List.drop_drop, List.take_append_drop]
      rw [e]
      exact h1.append h2
    · cases h
end

/-- An argument that is a struct or an array: its cells, leaf by leaf. -/
theorem open_leavesW {W : World} {b : Nat} {t : TypeId} {v : Value} {d : DataW H} {ps : List MemPlace} {ls : List Leaf} {n : Nat} (hls : leaves P n t = some ls)
    (hst : (match P.underlying t with | some (.struct _) | some (.array _ _) => true | _ => false) = true)
    (hv : Value.okWide P W .any b t v) (h : DataW.Trod enc P W base spare held t v d ps) (hw : ∀ n ∈ d.weights P t, n ≤ R) : ∃ cs, v = .agg cs.toArray ∧ LeavesW enc P W base spare held R ls cs := by
  obtain ⟨fuel, hf⟩ := h
  unfold Value.okWide at hv
  split at hst
  · rename_i fs hu
    rw [hu] at hv
    obtain ⟨cs, rfl, _, _⟩ := hv
    exact ⟨cs.toList, by simp, leaves_okW n t ls fuel _ _ hls hf hw⟩
  · rename_i m e hu
    rw [hu] at hv
    obtain ⟨cs, rfl, _, _⟩ := hv
    exact ⟨cs.toList, by simp, leaves_okW n t ls fuel _ _ hls hf hw⟩
  · cases hst
end

theorem by_u8 : Tryd.prog.underlying 5 = some (.int .u8) := by kernel_rfl
theorem by_c1 : Tryd.prog.cellsOf 5 = 1 := by kernel_rfl
theorem by_b1 : Tryd.prog.bytesOf 5 = 1 := by kernel_rfl

theorem u8_of_wf {n : Int} (h : (Lit.int .u8 n).wf = true) : ∃ b : UInt8, Value.int .u8 n = bv b := by
  have h2 : IntKind.u8.min ≤ n ∧ n ≤ IntKind.u8.max := by simpa [Lit.wf] using h
  have hm : IntKind.u8.min = 0 := by decide
  have hM : IntKind.u8.max = 255 := by decide
  refine ⟨UInt8.ofNat n.toNat, ?_⟩
  rw [bv_of_int]
  rw [hm, hM] at h2
  have : ((n.toNat : Nat) : Int) = n := Int.toNat_of_nonneg h2.1
  rw [this, show n % 256 = n by omega]

section
variable {H : Type} {enc : TypeId × Value → H} {W : World} {base : Nat} {spare : Nat → Bool} {held : Bool} {R : Nat}
/-- A slice of bytes that came in reads as a list. -/
theorem rb_of_trod {fuel : Nat} {v : Value} {x : DataW H × List MemPlace} (h : DataW.trod enc Tryd.prog W base spare held fuel 74 [v] = some x) (hw : ∀ n ∈ x.1.weights Tryd.prog 74, n ≤ reachBytes) :
    ∃ l, RB W v l ∧ (∀ g, v.ownBlock = some g → g < W.heap.size ∨ l = []) ∧ l.length ≤ 140737488351232 := by
  rcases Go.Deep.open_slice1 by_tu by_c1 h with ⟨hcs, rfl⟩ | ⟨a, len, cap, m, n, V, D, Pl, hcs, hb, hl, hm, hmm, rfl, hx⟩
  · cases hcs
    exact ⟨[], RB.nil_ W, fun g hg => .inr rfl, by simp⟩
  · simp only [List.cons.injEq, and_true] at hcs
    subst hcs
    have hlm : len ≤ m := by rw [hmm]; split <;> omega
    have hlen : len ≤ 140737488351232 := by
      have := hw ((len + (m - len)) * Tryd.prog.bytesOf 5) (by simp [DataW.weights, by_tu])
      rw [by_b1] at this
      simp only [reachBytes] at this
      omega
    have hB : ∀ i, i < len → ∃ b : UInt8, V i = bv b := fun i hi => by
      obtain ⟨_, ht⟩ := hx i (by omega)
      obtain ⟨k, e, _, hwf⟩ := DataW.trod_int by_u8 ht
      simp only [List.cons.injEq, and_true] at e
      obtain ⟨b, hb⟩ := u8_of_wf hwf
      exact ⟨b, e.trans hb⟩
    obtain ⟨bs, hbs⟩ := Go.Deep.choose_lt (α := UInt8) (p := fun i b => V i = bv b) hB
    have hll : ((List.range len).map bs).length = len := by simp
    have hcellb : ∀ i b, ((List.range len).map bs)[i]? = some b → ∃ g o, some a = some (⟨g, o, none⟩ : Addr) ∧ g < W.heap.size ∧ W.cell? ⟨g, o + i, none⟩ = some (bv b) := fun i b hi => by
      have hil : i < len := by have := (List.getElem?_eq_some_iff.1 hi).1; simpa using this
      have hbi : bs i = b := by
        rw [List.getElem?_map, List.getElem?_range hil] at hi
        simpa using hi
      obtain ⟨hc, _⟩ := hx i (by omega)
      have hsp := World.cell?_spot (hx 0 (by omega)).1
      obtain ⟨g, off, spot⟩ := a
      have hspot : spot = none := by simpa [Addr.add] using hsp
      subst hspot
      rw [add_flat] at hc
      refine ⟨g, off, rfl, cell_lt hc, ?_⟩
      rw [hc, hbs i hil, hbi]
    refine ⟨(List.range len).map bs, ⟨some a, cap, by rw [hll], by rw [hll]; exact hl, hm, by rw [hll]; omega, hcellb⟩, fun g hg => ?_, by rw [hll]; exact hlen⟩
    by_cases h0 : len = 0
    · exact .inr (by rw [h0]; rfl)
    · obtain ⟨g', o, e, hlt, _⟩ := hcellb 0 (bs 0) (by rw [List.getElem?_map, List.getElem?_range (by omega)]; rfl)
      injection e with e
      subst e
      simp only [Value.ownBlock, Option.some.injEq] at hg
      subst hg
      exact .inl hlt
end

section
variable {H : Type} {enc : TypeId × Value → H} {P : Program} {W : World} {base : Nat} {spare : Nat → Bool} {held : Bool}
theorem weights_each {ts : List TypeId} {ds : List (DataW H)} (h : (DataW.weightsEach P ts ds).all (· ≤ reachBytes) = true) {j : Nat} {t : TypeId} {d : DataW H} (ht : ts[j]? = some t) (hd : ds[j]? = some d) : ∀ n ∈ d.weights P t, n ≤ reachBytes :=
  fun n hn => by simpa using List.all_eq_true.1 h _ (DataW.weights_mem_each ht hd n hn)
theorem trodAll_one {t : TypeId} {args : Array Value} {ds : List (DataW H)} {ps : List MemPlace} (h : DataW.TrodAll enc P W base spare held [t] args.toList ds ps) :
    ∃ v d p, args = #[v] ∧ ds = [d] ∧ DataW.Trod enc P W base spare held t v d p := by
  obtain ⟨v, vs, d, ds', p, q, hargs, rfl, rfl, hd, hrest⟩ := trodAll_cons h
  obtain ⟨rfl, rfl, rfl⟩ := trodAll_nil hrest
  exact ⟨v, d, p, by cases args; simp_all, rfl, hd⟩
theorem trodAll_two {t t' : TypeId} {args : Array Value} {ds : List (DataW H)} {ps : List MemPlace} (h : DataW.TrodAll enc P W base spare held [t, t'] args.toList ds ps) :
    ∃ v v' d d' p p', args = #[v, v'] ∧ ds = [d, d'] ∧ DataW.Trod enc P W base spare held t v d p ∧ DataW.Trod enc P W base spare held t' v' d' p' := by
  obtain ⟨v, vs, d, ds', p, q, hargs, rfl, rfl, hd, hrest⟩ := trodAll_cons h
  obtain ⟨v', vs', d', ds'', p', q', rfl, rfl, rfl, hd', hrest'⟩ := trodAll_cons hrest
  obtain ⟨rfl, rfl, rfl⟩ := trodAll_nil hrest'
  exact ⟨v, v', d, d', p, p', by cases args; simp_all, rfl, hd, hd'⟩
theorem trodAll_three {t t' t'' : TypeId} {args : Array Value} {ds : List (DataW H)} {ps : List MemPlace} (h : DataW.TrodAll enc P W base spare held [t, t', t''] args.toList ds ps) :
    ∃ v v' v'' d d' d'' p p' p'', args = #[v, v', v''] ∧ ds = [d, d', d''] ∧ DataW.Trod enc P W base spare held t v d p ∧ DataW.Trod enc P W base spare held t' v' d' p' ∧ DataW.Trod enc P W base spare held t'' v'' d'' p'' := by
  obtain ⟨v, vs, d, ds', p, q, hargs, rfl, rfl, hd, hrest⟩ := trodAll_cons h
  obtain ⟨v', vs', d', ds'', p', q', rfl, rfl, rfl, hd', hrest'⟩ := trodAll_cons hrest
  obtain ⟨v'', vs'', d'', ds''', p'', q'', rfl, rfl, rfl, hd'', hrest''⟩ := trodAll_cons hrest'
  obtain ⟨rfl, rfl, rfl⟩ := trodAll_nil hrest''
  exact ⟨v, v', v'', d, d', d'', p, p', p'', by cases args; simp_all, rfl, hd, hd', hd''⟩
end
theorem u32_wf {n : Int} (h : (Lit.int .u32 n).wf = true) : ∃ m : Nat, n = (m : Int) ∧ m < 4294967296 := by
  have h2 : IntKind.u32.min ≤ n ∧ n ≤ IntKind.u32.max := by simpa [Lit.wf] using h
  have hm : IntKind.u32.min = 0 := by decide
  have hM : IntKind.u32.max = 4294967295 := by decide
  rw [hm, hM] at h2
  exact ⟨n.toNat, (Int.toNat_of_nonneg h2.1).symm, by omega⟩
theorem u64_wf {n : Int} (h : (Lit.int .u64 n).wf = true) : ∃ m : Nat, n = (m : Int) ∧ m < 18446744073709551616 := by
  have h2 : IntKind.u64.min ≤ n ∧ n ≤ IntKind.u64.max := by simpa [Lit.wf] using h
  have hm : IntKind.u64.min = 0 := by decide
  have hM : IntKind.u64.max = 18446744073709551615 := by decide
  rw [hm, hM] at h2
  exact ⟨n.toNat, (Int.toNat_of_nonneg h2.1).symm, by omega⟩
section
open Go.ChangeShapes
variable {H : Type} {enc : TypeId × Value → H} {W : World} {b base : Nat} {spare : Nat → Bool} {held : Bool}
/-- A slice of bytes that came in. -/
theorem open_bytes {v : Value} {d : DataW H} {ps : List MemPlace} (hv : Value.okWide Tryd.prog W .any b 74 v) (h : DataW.Trod enc Tryd.prog W base spare held 74 v d ps) (hw : ∀ n ∈ d.weights Tryd.prog 74, n ≤ reachBytes) :
    ∃ l, RB W v l ∧ l.length ≤ 140737488351232 := by
  obtain ⟨pa, n, cp, rfl⟩ := Go.WideShapes.okWide_slice by_tu hv
  obtain ⟨fuel, hf⟩ := h
  obtain ⟨l, hr, _, hlen⟩ := rb_of_trod hf hw
  exact ⟨l, hr, hlen⟩
end
end Go.Proofs.YtckbckdaffdjmaaDoor
