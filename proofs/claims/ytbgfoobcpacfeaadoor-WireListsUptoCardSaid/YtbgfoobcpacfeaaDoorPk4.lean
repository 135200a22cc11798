/- Walks and plain laws of the packets and frames, joined from: WPut, Og, WWrite, WWrite2, WWrite3, WWrite4, WWr. -/
import Derived.Test.YtbgfoobcpacfeaaDoorPk3
import Derived.Laws.BitsAllLaws
import Derived.Deep.MidRow
import Derived.Stop.BytesEq
/- Numbers behind bytes, of both. -/
namespace Go.Proofs.YtbgfoobcpacfeaaDoor
open Go.RowKit
set_option linter.unusedVariables false
set_option linter.unusedSimpArgs false

/-- v' is v, grown: of what lay at w only v's own block may have turned; v' lies there or in a new block. -/
structure After (w w' : World) (v v' : Value) : Prop where
  grown : w.grownBy w' v.ownBlock
  at_ : v'.ownBlock = v.ownBlock ∨ ∃ g, v'.ownBlock = some g ∧ w.heap.size ≤ g
theorem After.refl (w : World) (v : Value) : After w w v v := ⟨World.grownBy.refl w _, .inl rfl⟩
theorem After.trans {w w1 w2 : World} {v v1 v2 : Value} (h : After w w1 v v1) (k : After w1 w2 v1 v2) : After w w2 v v2 := by
  have hs := h.grown.size
  refine ⟨⟨k.grown.os.trans h.grown.os, k.grown.tape.trans h.grown.tape, k.grown.output.trans h.grown.output, Nat.le_trans hs k.grown.size, fun i hi hne => ?_⟩, ?_⟩
  · refine (k.grown.block i (by omega) ?_).trans (h.grown.block i hi hne)
    intro e
    rcases h.at_ with e1 | ⟨g, e1, hg⟩
    · exact hne (e.trans e1)
    · rw [e1] at e; injection e with e; omega
  · rcases k.at_ with e2 | ⟨g, e2, hg⟩
    · rw [e2]; exact h.at_
    · exact .inr ⟨g, e2, by omega⟩
theorem After.of {w w' : World} {v v' : Value} (hg : w.grownBy w' v.ownBlock) (ha : v'.ownBlock = v.ownBlock ∨ v'.ownBlock = some w.heap.size) : After w w' v v' :=
  ⟨hg, ha.imp id fun e => ⟨_, e, Nat.le_refl _⟩⟩
theorem After.alloc (w : World) (v : Value) (o : Obj) : After w (w.alloc o) v v := ⟨World.grownBy_alloc w o _, .inl rfl⟩
theorem After.below {w w' : World} (v : Value) (h : Below w.heap.size w w') : After w w' v v := ⟨below_grown h, .inl rfl⟩
/-- Of what lies below B nothing has turned, if v lies from B on. -/
theorem After.belowB {B : Nat} {w w' : World} {v v' : Value} (h : After w w' v v') (hv : ∀ k, v.ownBlock = some k → B ≤ k) (hB : B ≤ w.heap.size) : Below B w w' :=
  (Below.refl B w).grown h.grown hB hv

theorem bv_of (x : Nat) : bv (UInt8.ofNat x) = .int .u8 ((x : Int) % 256) := by
  show Value.int .u8 ((UInt8.ofNat x).toNat : Int) = _
  rw [UInt8.toNat_ofNat']; rfl

theorem be_next (k j x : Nat) : (Wi.be (k + 1 + j) x).take (k + 1) = (Wi.be (k + 1 + j) x).take k ++ [UInt8.ofNat (x >>> (8 * j))] := by
  induction k generalizing j with
  | zero =>
    rw [show 0 + 1 + j = j + 1 by omega]
    simp [Wi.be]
  | succ k ih =>
    have h : k + 1 + 1 + j = (k + 1 + j) + 1 := by omega
    rw [h]
    simp only [Wi.be, List.take_succ_cons, List.cons_append]
    rw [ih]

set_option maxRecDepth 100000 in
set_option maxHeartbeats 4000000 in
theorem put_calls {w : World} {B : Nat} {v : Value} {l : List UInt8} (n x : Nat) (h : OB B w v l) (hB : B ≤ w.heap.size) (hn : n ≤ 8) (hx : x < 18446744073709551616) (hl : l.length + n ≤ 140737488355328) :
    Calls Tryd.prog 51 #[v, .int .i64 n, .int .u64 x] w fun e w' => ∃ v', e = .returned v' ∧ OB B w' v' (l ++ Wi.be n x) ∧ After w w' v v' := by
  go_enter Tryd.func51, Tryd.ntmps51
  go_wp2_with fail
  refine wp_loop_count (fun k a w' => ∃ v' z, z = (n : Int) - 1 - (k : Nat) ∧ (∃ U : Nat → Value, a = ⟨#[v', .int .i64 n, .int .u64 x, U 3, U 4, U 5, .slice none 0 0, .int .i64 z, U 8, U 9, U 10, U 11, U 12, U 13, U 14, U 15, U 16, U 17, U 18, U 19, U 20, U 21, U 22], []⟩) ∧ OB B w' v' (l ++ (Wi.be n x).take k) ∧ After w w' v v') n ⟨v, _, by omega, exU (fun U => ⟨#[v, .int .i64 n, .int .u64 x, U 3, U 4, U 5, .slice none 0 0, .int .i64 ((n : Int) - 1), U 8, U 9, U 10, U 11, U 12, U 13, U 14, U 15, U 16, U 17, U 18, U 19, U 20, U 21, U 22], []⟩) rfl, by simpa using h, After.refl w v⟩ ?_ ?_
  · rintro k a w' hk ⟨v', z, hz, ⟨U, rfl⟩, ho, haf⟩
    obtain ⟨j, rfl⟩ : ∃ j, n = k + 1 + j := ⟨n - (k + 1), by omega⟩
    obtain rfl : z = (j : Int) := by omega
    have Hb := Lib.hid (be_next k j x)
    have hj : (j : Int) < 8 := by omega
    have hj0 : (0 : Int) ≤ (j : Int) := Int.natCast_nonneg j
    have hx0 : (0 : Int) ≤ (x : Int) := Int.natCast_nonneg x
    clear hz
    have Hl : Hid (#[Value.int .u8 ((x : Int) / 2 ^ (8 * j) % 256)] = ([UInt8.ofNat (x >>> (8 * j))].map bv).toArray) := by
      show _ = #[bv _]
      rw [bv_of, Nat.shiftRight_eq_div_pow, Int.natCast_ediv, Int.natCast_pow]; rfl
    have hlen : (l ++ (Wi.be (k + 1 + j) x).take k).length + 1 ≤ 140737488355328 := by
      have := List.length_take_le k (Wi.be (k + 1 + j) x)
      rw [List.length_append]; omega
    have hsz : B ≤ w'.heap.size := Nat.le_trans hB haf.grown.size
    go_wp2_with (first
      | (at_builtin
         refine wpList_append_OB (v := v') rfl (.tmp 14) (.tmp 20) rfl rfl rfl rfl (ho.below (below_alloc1 _ _)) (RB.lit _ _ [UInt8.ofNat (x >>> (8 * j))] 1 Hl.out rfl (by simp)) hlen (by simp; omega) ?_
         intro v1 w1 ho1 hg1 hat1)
      | fail)
    rw [List.append_assoc, ← Hb.out] at ho1
    exact ⟨v1, _, by omega, exU (fun U => ⟨#[v1, .int .i64 (k + 1 + j : Nat), .int .u64 x, U 3, U 4, U 5, .slice none 0 0, .int .i64 ((j : Int) - 1), U 8, U 9, U 10, U 11, U 12, U 13, U 14, U 15, U 16, U 17, U 18, U 19, U 20, U 21, U 22], []⟩) rfl, ho1, (haf.trans (After.alloc _ _ _)).trans (After.of hg1 (by simpa using hat1))⟩
  · rintro a w' ⟨v', z, hz, ⟨U, rfl⟩, ho, haf⟩
    obtain rfl : z = -1 := by omega
    clear hz
    rw [List.take_of_length_le (by rw [Wi.be_length]; exact Nat.le_refl _)] at ho
    go_wp2_with fail
    go_ret
    exact ⟨v', rfl, ho, haf⟩

set_option maxRecDepth 100000 in
set_option maxHeartbeats 4000000 in
theorem refPut_calls {w : World} {B : Nat} {v : Value} {l : List UInt8} (n x : Nat) (h : OB B w v l) (hB : B ≤ w.heap.size) (hn : n ≤ 8) (hx : x < 18446744073709551616) (hl : l.length + n ≤ 140737488355328) :
    Calls Tryd.prog 45 #[v, .int .u64 x, .int .i64 n] w fun e w' => ∃ v', e = .returned v' ∧ OB B w' v' (l ++ Wi.be n x) ∧ After w w' v v' := by
  go_enter Tryd.func45, Tryd.ntmps45
  go_wp2_with fail
  refine wp_loop_count (fun k a w' => ∃ v' z, z = (n : Int) - 1 - (k : Nat) ∧ (∃ U : Nat → Value, a = ⟨#[v', .int .u64 x, .int .i64 n, U 3, U 4, U 5, .slice none 0 0, .int .i64 z, U 8, U 9, U 10, U 11, U 12, U 13, U 14, U 15, U 16, U 17, U 18, U 19, U 20, U 21, U 22, U 23], []⟩) ∧ OB B w' v' (l ++ (Wi.be n x).take k) ∧ After w w' v v') n ⟨v, _, by omega, exU (fun U => ⟨#[v, .int .u64 x, .int .i64 n, U 3, U 4, U 5, .slice none 0 0, .int .i64 ((n : Int) - 1), U 8, U 9, U 10, U 11, U 12, U 13, U 14, U 15, U 16, U 17, U 18, U 19, U 20, U 21, U 22, U 23], []⟩) rfl, by simpa using h, After.refl w v⟩ ?_ ?_
  · rintro k a w' hk ⟨v', z, hz, ⟨U, rfl⟩, ho, haf⟩
    obtain ⟨j, rfl⟩ : ∃ j, n = k + 1 + j := ⟨n - (k + 1), by omega⟩
    obtain rfl : z = (j : Int) := by omega
    have Hb := Lib.hid (be_next k j x)
    have hj : (j : Int) < 8 := by omega
    have hj0 : (0 : Int) ≤ (j : Int) := Int.natCast_nonneg j
    have hx0 : (0 : Int) ≤ (x : Int) := Int.natCast_nonneg x
    clear hz
    have Hl : Hid (#[Value.int .u8 ((x : Int) / 2 ^ (8 * j) % 256)] = ([UInt8.ofNat (x >>> (8 * j))].map bv).toArray) := by
      show _ = #[bv _]
      rw [bv_of, Nat.shiftRight_eq_div_pow, Int.natCast_ediv, Int.natCast_pow]; rfl
    have hlen : (l ++ (Wi.be (k + 1 + j) x).take k).length + 1 ≤ 140737488355328 := by
      have := List.length_take_le k (Wi.be (k + 1 + j) x)
      rw [List.length_append]; omega
    have hsz : B ≤ w'.heap.size := Nat.le_trans hB haf.grown.size
    go_wp2_with (first
      | (at_builtin
         refine wpList_append_OB (v := v') rfl (.tmp 14) (.tmp 21) rfl rfl rfl rfl (ho.below (below_alloc1 _ _)) (RB.lit _ _ [UInt8.ofNat (x >>> (8 * j))] 1 Hl.out rfl (by simp)) hlen (by simp; omega) ?_
         intro v1 w1 ho1 hg1 hat1)
      | fail)
    rw [List.append_assoc, ← Hb.out] at ho1
    exact ⟨v1, _, by omega, exU (fun U => ⟨#[v1, .int .u64 x, .int .i64 (k + 1 + j : Nat), U 3, U 4, U 5, .slice none 0 0, .int .i64 ((j : Int) - 1), U 8, U 9, U 10, U 11, U 12, U 13, U 14, U 15, U 16, U 17, U 18, U 19, U 20, U 21, U 22, U 23], []⟩) rfl, ho1, (haf.trans (After.alloc _ _ _)).trans (After.of hg1 (by simpa using hat1))⟩
  · rintro a w' ⟨v', z, hz, ⟨U, rfl⟩, ho, haf⟩
    obtain rfl : z = -1 := by omega
    clear hz
    rw [List.take_of_length_le (by rw [Wi.be_length]; exact Nat.le_refl _)] at ho
    go_wp2_with fail
    go_ret
    exact ⟨v', rfl, ho, haf⟩
end Go.Proofs.YtbgfoobcpacfeaaDoor

/- Regions that draw their order and hold several operations that make memory: each operation by itself, at any order: what each slot holds (V) is told of the world, and must outlast the others. -/
namespace Go.Proofs.YtbgfoobcpacfeaaDoor
open Go.RowKit
set_option linter.unusedSimpArgs false
namespace Og
/-- The frame is φ. -/
def Fr (n : Nat) (a : Act) (φ : Nat → Value) : Prop := a.defers = [] ∧ a.tmps.size = n ∧ ∀ t, a.tmps.getD t undef = φ t
def upd (φ : Nat → Value) (d : Nat) (v : Value) : Nat → Value := fun t => if t = d then v else φ t
def ev (φ : Nat → Value) : Operand → Value
  | .tmp t => φ t
  | .const v => v
  | .global g => .pointer (some ⟨g, 0, none⟩)
  | .func f => .func (.func f) #[] #[]
theorem Fr.eval {n : Nat} {a : Act} {φ : Nat → Value} (h : Fr n a φ) : a.eval = ev φ := by
  funext x
  cases x with
  | tmp t => exact h.2.2 t
  | const v => rfl
  | global g => rfl
  | func f => rfl
theorem Fr.put {n : Nat} {a : Act} {φ : Nat → Value} (h : Fr n a φ) (d : Nat) (v : Value) (hd : d < n) : Fr n (a.put (some d) v) (upd φ d v) := by
  obtain ⟨h1, h2, h3⟩ := h
  refine ⟨h1, by simpa [Act.put] using h2, fun t => ?_⟩
  have := h3 t
  simp only [Act.put, upd, Array.getD_eq_getD_getElem?] at this ⊢
  by_cases e : t = d
  · subst e
    simp [Array.getElem?_setIfInBounds, h2, hd]
  · rw [if_neg e, Array.getElem?_setIfInBounds_ne (Ne.symm e)]
    exact this
theorem Fr.lit {n : Nat} {t : Array Value} (hn : t.size = n) : Fr n ⟨t, []⟩ (fun k => t.getD k undef) := ⟨rfl, hn, fun _ => rfl⟩

theorem Fr.lit_eq {n : Nat} {a : Act} {φ : Nat → Value} (h : Fr n a φ) : a = ⟨((List.range n).map φ).toArray, []⟩ := by
  obtain ⟨t, d⟩ := a
  obtain ⟨h1, h2, h3⟩ := h
  simp only at h1 h2 h3
  subst h1
  congr 1
  apply Array.ext
  · simpa using h2
  · intro i hi _
    have := h3 i
    simp only [Array.getD_eq_getD_getElem?, Array.getElem?_eq_getElem hi, Option.getD_some] at this
    simpa using this
theorem Fr.lit_ex {n : Nat} {a : Act} {φ : Nat → Value} (h : Fr n a φ) (F : (Nat → Value) → Act) (he : (⟨((List.range n).map φ).toArray, []⟩ : Act) = F φ) : ∃ U, a = F U := ⟨φ, h.lit_eq.trans he⟩
def isData : Edge → Bool
  | ⟨_, .data⟩ => true
  | ⟨_, .guard⟩ => true
  | _ => false
/-- Is the operation wanted in that frame? -/
def wantF (l : List Oper) (φ : Nat → Value) (o : Oper) : Bool := Region.wanted o fun j => match (l[j]?).bind (·.dst) with
  | some d => match φ d with
    | .bool b => some b
    | _ => none
  | none => none
/-- Does the operation use what operation j yields? -/
def usesB (o : Oper) (j : Nat) : Bool := o.after.toList.any fun e => isData e && e.on == j
/-- Must operation j be done ahead of the operation? -/
def tiedB (o : Oper) (j : Nat) : Bool := o.after.toList.any fun e => Region.binds .any e && e.on == j
def isDst (l : List Oper) (t : Nat) : Bool := l.any fun o => o.dst == some t
/-- Must what operation j yields outlast operation i? -/
def need (l : List Oper) (F : Nat → Bool) (j i : Nat) : Bool := j != i && !(match l[j]? with | some o => tiedB o i | none => false) && (F j || (List.range l.length).any fun k => k != i && match l[k]? with
  | some o => usesB o j
  | none => false)
/-- May operation j still be to come when operation i is done? -/
def open_ (l : List Oper) (j i : Nat) : Bool := j != i && !(match l[i]? with | some o => tiedB o j | none => false)
def wellB (l : List Oper) (n : Nat) : Bool :=
  (l.all fun o => match o.dst with | some d => decide (d < n) | none => true) && decide (l.filterMap (·.dst)).Nodup &&
  ((List.range l.length).all fun i => match l[i]? with | some o => o.after.all (fun e => !Region.binds .any e || decide (e.on < i)) | none => true)

section
variable {P : Program} {l : List Oper} {F : Nat → Bool} {V : Nat → Value → World → Prop} {R : World → Prop} {T : Nat → World → Prop} {φ0 : Nat → Value} {n : Nat}

/-- What operation i leaves. -/
structure Good (l : List Oper) (F : Nat → Bool) (V : Nat → Value → World → Prop) (R : World → Prop) (T : Nat → World → Prop) (i : Nat) (v : Value) (w w' : World) : Prop where
  keep : R w'
  val : V i v w'
  tok : ∀ j, open_ l j i = true → T j w → T j w'
  rest : ∀ j u, need l F j i = true → V j u w → V j u w'
def OpOk (P : Program) (l : List Oper) (F : Nat → Bool) (V : Nat → Value → World → Prop) (R : World → Prop) (T : Nat → World → Prop) (φ0 : Nat → Value) (i : Nat) (o : Oper) : Prop :=
  ∀ φ w, R w → T i w → (∀ t, isDst l t = false → φ t = φ0 t) → (∀ e ∈ o.after, isData e = true → ∀ oj d, l[e.on]? = some oj → oj.dst = some d → V e.on (φ d) w) →
    (wantF l φ o = true → match (execOp (ev φ) o).run P w with
    | .ok (.value v) w' => Good l F V R T i v w w'
    | .ok .skip w' => Good l F V R T i undef w w'
    | .ok (.enter f args) w' => Calls P f args w' fun e w'' => ∃ v, e = .returned v ∧ Good l F V R T i v w w''
    | _ => False) ∧ (wantF l φ o = false → Good l F V R T i undef w w)

/-- The frame and the world where some are done. -/
def Inv (l : List Oper) (F : Nat → Bool) (V : Nat → Value → World → Prop) (R : World → Prop) (T : Nat → World → Prop) (φ0 : Nat → Value) (n : Nat) (listed : Array Bool) (a : Act) (w : World) : Prop :=
  ∃ φ, Fr n a φ ∧ R w ∧ (∀ i, i < l.length → listed.getD i true = false → T i w) ∧ (∀ j oj, l[j]? = some oj → listed.getD j true = true → ∀ e ∈ oj.after, Region.binds .any e = true → listed.getD e.on false = true) ∧ (∀ t, isDst l t = false → φ t = φ0 t) ∧
    (∀ j oj d, l[j]? = some oj → oj.dst = some d → listed.getD j true = true → (F j = true ∨ ∃ k ok, l[k]? = some ok ∧ listed.getD k true = false ∧ usesB ok j = true) → V j (φ d) w) ∧
    ∀ j oj, l[j]? = some oj → oj.dst = none → listed.getD j true = true → (F j = true ∨ ∃ k ok, l[k]? = some ok ∧ listed.getD k true = false ∧ usesB ok j = true) → ∃ u, V j u w

theorem dst_ne (hn : (l.filterMap (·.dst)).Nodup) {i j d : Nat} {oi oj : Oper} (hi : l[i]? = some oi) (hj : l[j]? = some oj) (di : oi.dst = some d) (dj : oj.dst = some d) : i = j := by
  induction l generalizing i j with
  | nil => simp at hi
  | cons x l ih =>
    have hmem : ∀ (k : Nat) (o : Oper), l[k]? = some o → o.dst = some d → d ∈ l.filterMap (·.dst) := fun k o hk ho => List.mem_filterMap.2 ⟨o, List.mem_of_getElem? hk, ho⟩
    cases hx : x.dst with
    | none =>
      have hn' : (l.filterMap (·.dst)).Nodup := by simpa [List.filterMap_cons, hx] using hn
      cases i with
      | zero => simp only [List.getElem?_cons_zero, Option.some.injEq] at hi; subst hi; rw [hx] at di; cases di
      | succ i =>
        cases j with
        | zero => simp only [List.getElem?_cons_zero, Option.some.injEq] at hj; subst hj; rw [hx] at dj; cases dj
        | succ j => exact congrArg (· + 1) (ih hn' (by simpa using hi) (by simpa using hj))
    | some y =>
      have hn2 : y ∉ l.filterMap (·.dst) ∧ (l.filterMap (·.dst)).Nodup := by simpa [List.filterMap_cons, hx] using hn
      cases i with
      | zero =>
        simp only [List.getElem?_cons_zero, Option.some.injEq] at hi; subst hi
        rw [hx] at di; cases di
        cases j with
        | zero => rfl
        | succ j => exact absurd (hmem j oj (by simpa using hj) dj) hn2.1
      | succ i =>
        cases j with
        | zero =>
          simp only [List.getElem?_cons_zero, Option.some.injEq] at hj; subst hj
          rw [hx] at dj; cases dj
          exact absurd (hmem i oi (by simpa using hi) di) hn2.1
        | succ j => exact congrArg (· + 1) (ih hn2.2 (by simpa using hi) (by simpa using hj))

theorem isDst_of {t k : Nat} {o : Oper} (hk : l[k]? = some o) (h : o.dst = some t) : isDst l t = true := List.any_eq_true.2 ⟨o, List.mem_of_getElem? hk, by simp [h]⟩

theorem Inv.step (hB : wellB l n = true) {listed : Array Bool} (hs : listed.size = l.length) {i : Nat} {o : Oper} (hi : l[i]? = some o) (hun : listed.getD i true = false) {φ : Nat → Value} {a : Act} {w w' : World} {v : Value}
    (hF : Fr n a φ) (htk : ∀ i, i < l.length → listed.getD i true = false → T i w) (hdc : ∀ j oj, l[j]? = some oj → listed.getD j true = true → ∀ e ∈ oj.after, Region.binds .any e = true → listed.getD e.on false = true) (hdi : ∀ e ∈ o.after, Region.binds .any e = true → listed.getD e.on false = true) (h0 : ∀ t, isDst l t = false → φ t = φ0 t)
    (hv : ∀ j oj d, l[j]? = some oj → oj.dst = some d → listed.getD j true = true → (F j = true ∨ ∃ k ok, l[k]? = some ok ∧ listed.getD k true = false ∧ usesB ok j = true) → V j (φ d) w)
    (hvn : ∀ j oj, l[j]? = some oj → oj.dst = none → listed.getD j true = true → (F j = true ∨ ∃ k ok, l[k]? = some ok ∧ listed.getD k true = false ∧ usesB ok j = true) → ∃ u, V j u w)
    (hg : Good l F V R T i v w w') : Inv l F V R T φ0 n (listed.setIfInBounds i true) (a.put o.dst v) w' := by
  simp only [wellB, Bool.and_eq_true, decide_eq_true_eq, List.all_eq_true] at hB
  obtain ⟨⟨hall, hnd⟩, hord⟩ := hB
  have ho := hall o (List.mem_of_getElem? hi)
  obtain ⟨hk, hval, htok, hrest⟩ := hg
  have htk' : ∀ j, j < l.length → (listed.setIfInBounds i true).getD j true = false → T j w' := fun j hj hl => by
    by_cases e : j = i
    · subst e
      have : (listed.setIfInBounds j true).getD j true = true := by simp [Array.getD_eq_getD_getElem?, Array.getElem?_setIfInBounds, hs, hj]
      rw [this] at hl; cases hl
    · rw [getD_set_ne true (Ne.symm e)] at hl
      refine htok j ?_ (htk j hj hl)
      have hnu : tiedB o j = false := by
        cases hu : tiedB o j with
        | false => rfl
        | true =>
          obtain ⟨e1, he, hee⟩ := List.any_eq_true.1 hu
          simp only [Bool.and_eq_true, beq_iff_eq] at hee
          have h3 := hdi e1 (Array.mem_toList_iff.1 he) hee.1
          rw [hee.2] at h3
          have hlt : j < listed.size := by omega
          simp [Array.getD_eq_getD_getElem?, hlt] at hl h3
          rw [hl] at h3; cases h3
      simp [open_, e, hi, hnu]
  have hdc' : ∀ j oj, l[j]? = some oj → (listed.setIfInBounds i true).getD j true = true → ∀ e ∈ oj.after, Region.binds .any e = true → (listed.setIfInBounds i true).getD e.on false = true := fun j oj hj hl e he hb => by
    by_cases e' : j = i
    · subst e'
      obtain rfl : o = oj := Option.some.inj (hi.symm.trans hj)
      exact getD_set_true (hdi e he hb)
    · rw [getD_set_ne true (Ne.symm e')] at hl
      exact getD_set_true (hdc j oj hj hl e he hb)
  have needs : ∀ j oj, j ≠ i → l[j]? = some oj → listed.getD j true = true → (F j = true ∨ ∃ k ok, l[k]? = some ok ∧ (listed.setIfInBounds i true).getD k true = false ∧ usesB ok j = true) →
      need l F j i = true ∧ (F j = true ∨ ∃ k ok, l[k]? = some ok ∧ listed.getD k true = false ∧ usesB ok j = true) := by
      intro j oj hji hj hl hlive
      have hnu : tiedB oj i = false := by
        cases hu : tiedB oj i with
        | false => rfl
        | true =>
          obtain ⟨e, he, hee⟩ := List.any_eq_true.1 hu
          simp only [Bool.and_eq_true, beq_iff_eq] at hee
          have h3 := hdc j oj hj hl e (Array.mem_toList_iff.1 he) hee.1
          rw [hee.2] at h3
          have hlt : i < listed.size := by rw [hs]; exact (List.getElem?_eq_some_iff.1 hi).1
          simp [Array.getD_eq_getD_getElem?, hlt] at hun h3
          rw [hun] at h3; cases h3
      have hneed : need l F j i = true ∧ (F j = true ∨ ∃ k ok, l[k]? = some ok ∧ listed.getD k true = false ∧ usesB ok j = true) := by
        rcases hlive with hf | ⟨k, ok, hk', hku, huse⟩
        · exact ⟨by simp [need, hji, hf, hj, hnu], .inl hf⟩
        · by_cases hki : k = i
          · subst hki
            have : (listed.setIfInBounds k true).getD k true = true := by
              have hlt : k < listed.size := by rw [hs]; exact (List.getElem?_eq_some_iff.1 hi).1
              simp [Array.getD_eq_getD_getElem?, Array.getElem?_setIfInBounds, hlt]
            rw [this] at hku; cases hku
          · rw [getD_set_ne true (Ne.symm hki)] at hku
            refine ⟨?_, .inr ⟨k, ok, hk', hku, huse⟩⟩
            simp only [need, Bool.and_eq_true, bne_iff_ne, ne_eq, Bool.or_eq_true, List.any_eq_true, List.mem_range]
            exact ⟨⟨hji, by rw [hj]; simpa using hnu⟩, .inr ⟨k, (List.getElem?_eq_some_iff.1 hk').1, hki, by rw [hk']; exact huse⟩⟩
      exact hneed
  have key : ∀ (φ' : Nat → Value), (∀ d, o.dst = some d → φ' d = v) → (∀ t, o.dst ≠ some t → φ' t = φ t) → ∀ j oj d, l[j]? = some oj → oj.dst = some d → (listed.setIfInBounds i true).getD j true = true →
      (F j = true ∨ ∃ k ok, l[k]? = some ok ∧ (listed.setIfInBounds i true).getD k true = false ∧ usesB ok j = true) → V j (φ' d) w' := by
    intro φ' h1 h2 j oj d hj hd hl hlive
    by_cases hji : j = i
    · subst hji
      obtain rfl : o = oj := Option.some.inj (hi.symm.trans hj)
      rw [h1 d hd]; exact hval
    · have hne : o.dst ≠ some d := fun e => hji (dst_ne hnd hj hi hd e)
      rw [h2 d hne]
      rw [getD_set_ne true (Ne.symm hji)] at hl
      have hneed := needs j oj hji hj hl hlive
      exact hrest j _ hneed.1 (hv j oj d hj hd hl hneed.2)
  have keyn : ∀ j oj, l[j]? = some oj → oj.dst = none → (listed.setIfInBounds i true).getD j true = true →
      (F j = true ∨ ∃ k ok, l[k]? = some ok ∧ (listed.setIfInBounds i true).getD k true = false ∧ usesB ok j = true) → ∃ u, V j u w' := by
    intro j oj hj hd hl hlive
    by_cases hji : j = i
    · subst hji
      exact ⟨v, hval⟩
    · rw [getD_set_ne true (Ne.symm hji)] at hl
      have hneed := needs j oj hji hj hl hlive
      obtain ⟨u, hu⟩ := hvn j oj hj hd hl hneed.2
      exact ⟨u, hrest j u hneed.1 hu⟩
  cases hd : o.dst with
  | none => exact ⟨φ, hF, hk, htk', hdc', h0, key φ (fun d e => by rw [hd] at e; cases e) (fun _ _ => rfl), keyn⟩
  | some d =>
    have hlt : d < n := by have := ho; rw [hd] at this; simpa using this
    refine ⟨upd φ d v, hF.put d v hlt, hk, htk', hdc', fun t ht => ?_, key _ (fun d' e => ?_) (fun t e => ?_), keyn⟩
    · have : t ≠ d := fun e => by subst e; rw [isDst_of hi hd] at ht; cases ht
      simp only [upd, if_neg this]; exact h0 t ht
    · rw [hd] at e; cases e; simp [upd]
    · have : t ≠ d := fun e' => e (by rw [hd, e'])
      simp only [upd, if_neg this]

theorem ready_some (hB : wellB l n = true) {listed : Array Bool} (hs : listed.size = l.length) (hr : Region.ready .any l.toArray listed = []) : ∀ i, i < l.length → listed.getD i true = true := by
  simp only [wellB, Bool.and_eq_true, decide_eq_true_eq, List.all_eq_true, List.mem_range] at hB
  obtain ⟨_, hord⟩ := hB
  intro i
  induction i using Nat.strongRecOn with
  | ind i ih =>
    intro hi
    cases h : listed.getD i true with
    | true => rfl
    | false =>
      have hmem : i ∈ Region.ready .any l.toArray listed := by
        refine mem_ready.2 ⟨h, l[i], by simp [hi], fun e he hbd => ?_⟩
        have h1 := hord i hi
        rw [List.getElem?_eq_getElem hi] at h1
        have h2 : e.on < i := by simpa [hbd] using Array.all_eq_true_iff_forall_mem.1 h1 e he
        have h3 := ih e.on h2 (by omega)
        have hlt : e.on < listed.size := by omega
        simpa [Array.getD_eq_getD_getElem?, hlt] using h3
      rw [hr] at hmem; cases hmem

theorem wpAny_inv (hB : wellB l n = true) {Q : Exit → Act → World → Prop} (hstep : ∀ i o, l[i]? = some o → OpOk P l F V R T φ0 i o)
    (hend : ∀ φ a w, Fr n a φ → R w → (∀ t, isDst l t = false → φ t = φ0 t) → (∀ j o d, F j = true → l[j]? = some o → o.dst = some d → V j (φ d) w) → (∀ j o, F j = true → l[j]? = some o → o.dst = none → ∃ u, V j u w) → Q .normal a w) :
    ∀ (f : Nat) (listed : Array Bool) (a : Act) (w : World), listed.size = l.length → (f = 0 → ∀ i, i < l.length → listed.getD i true = true) → (List.range l.length).countP (fun i => !listed.getD i true) = f → Inv l F V R T φ0 n listed a w → wpAny P .any l.toArray Q f listed a w := by
  have fin : ∀ (listed : Array Bool) (a : Act) (w : World), (∀ i, i < l.length → listed.getD i true = true) → Inv l F V R T φ0 n listed a w → Q .normal a w := by
    rintro listed a w hall ⟨φ, hF, hR, htk, hdc, h0, hv, hvn⟩
    exact hend φ a w hF hR h0 (fun j o d hf hj hd => hv j o d hj hd (hall j (List.getElem?_eq_some_iff.1 hj).1) (.inl hf)) (fun j o hf hj hd => hvn j o hj hd (hall j (List.getElem?_eq_some_iff.1 hj).1) (.inl hf))
  intro f
  induction f with
  | zero =>
    intro listed a w hs h0 _ hI
    refine ⟨?_, fin listed a w (h0 rfl) hI⟩
    cases hr : Region.ready .any l.toArray listed with
    | nil => rfl
    | cons i r =>
      have hm : i ∈ Region.ready .any l.toArray listed := by rw [hr]; exact List.mem_cons_self ..
      obtain ⟨h1, o, ho, _⟩ := mem_ready.1 hm
      have hlt : i < l.length := by have := (Array.getElem?_eq_some_iff.1 ho).1; simpa using this
      rw [h0 rfl i hlt] at h1; cases h1
  | succ f ih =>
    intro listed a w hs _ hc hI
    refine ⟨fun hr => fin listed a w (ready_some hB hs hr) hI, fun i hm => ?_⟩
    obtain ⟨hun, o, ho, hdep⟩ := mem_ready.1 hm
    have hio : l[i]? = some o := by simpa using ho
    have hlt : i < l.length := (List.getElem?_eq_some_iff.1 hio).1
    obtain ⟨φ, hF, hR, htk, hdc, h0, hv, hvn⟩ := hI
    have hok := hstep i o hio φ w hR (htk i hlt hun) h0 (fun e he hd oj d hj hdj => by
      have hb : Region.binds .any e = true := by
        obtain ⟨on, g⟩ := e
        cases g <;> first | rfl | cases hd
      have hl := hdep e he hb
      refine hv e.on oj d hj hdj ?_ (.inr ⟨i, o, hio, hun, ?_⟩)
      · cases hx : listed[e.on]? with
        | none => simp [Array.getD_eq_getD_getElem?, hx] at hl
        | some b => simpa [Array.getD_eq_getD_getElem?, hx] using hl
      · exact List.any_eq_true.2 ⟨e, Array.mem_toList_iff.2 he, by simp [hd]⟩)
    have hw : Region.wanted o (yielded l.toArray a.tmps) = wantF l φ o := by
      have hall : ∀ (k : Nat) (ok : Oper) (d : Nat), l[k]? = some ok → ok.dst = some d → d < n := fun k ok d hk hd => by
        have h1 := hB
        simp only [wellB, Bool.and_eq_true, List.all_eq_true] at h1
        have h2 := h1.1.1 ok (List.mem_of_getElem? hk)
        rw [hd] at h2
        simpa using h2
      unfold wantF Region.wanted
      cases o.guard with
      | none => rfl
      | some g =>
        obtain ⟨j, want⟩ := g
        have : yielded l.toArray a.tmps j = (match (l[j]?).bind (·.dst) with
          | some d => match φ d with
            | .bool b => some b
            | _ => none
          | none => none) := by
          unfold yielded
          rw [List.getElem?_toArray]
          cases hj : l[j]? with
          | none => rfl
          | some oj =>
            cases hd : oj.dst with
            | none => simp [hd]
            | some d =>
              have hlt2 : d < a.tmps.size := by rw [hF.2.1]; exact hall j oj d hj hd
              have h3 := hF.2.2 d
              simp only [Array.getD_eq_getD_getElem?, Array.getElem?_eq_getElem hlt2, Option.getD_some] at h3
              simp only [Option.bind_some, hd, Array.getElem?_eq_getElem hlt2, h3]
              cases φ d <;> rfl
        simp only [this]
    have next : ∀ v w', Good l F V R T i v w w' → wpAny P .any l.toArray Q f (listed.setIfInBounds i true) (a.put o.dst v) w' := fun v w' hg => by
      have hcount : (List.range l.length).countP (fun j => !(listed.setIfInBounds i true).getD j true) = f := by
        have hle : ∀ (m : Nat), m ≤ l.length → (List.range m).countP (fun j => !listed.getD j true) = (List.range m).countP (fun j => !(listed.setIfInBounds i true).getD j true) + (if i < m then 1 else 0) := by
          intro m
          induction m with
          | zero => intro _; simp
          | succ m ihm =>
            intro hm'
            rw [List.range_succ, List.countP_append, List.countP_append, ihm (by omega)]
            by_cases e : m = i
            · subst e
              have h1 : (listed.setIfInBounds m true).getD m true = true := by
                simp [Array.getD_eq_getD_getElem?, Array.getElem?_setIfInBounds, hs, hlt]
              simp only [List.countP_cons, List.countP_nil, hun, h1]
              simp
            · simp only [List.countP_cons, List.countP_nil, getD_set_ne true (Ne.symm e)]
              have : (i < m + 1) = (i < m) := by simp; omega
              simp only [this]
              omega
        have := hle l.length (Nat.le_refl _)
        rw [if_pos hlt] at this
        omega
      refine ih _ _ _ (by simpa using hs) (fun hf0 => ?_) hcount (Inv.step hB hs hio hun hF htk hdc hdep h0 hv hvn hg)
      subst hf0
      intro j hj
      have := List.countP_eq_zero.1 hcount j (List.mem_range.2 hj)
      simpa using this
    unfold wpOp
    simp only [ho]
    rw [hw]
    cases hwf : wantF l φ o with
    | false =>
      simp only [Bool.false_eq_true, if_false]
      exact next undef w (hok.2 hwf)
    | true =>
      simp only [if_true]
      refine .inl ?_
      have hok := hok.1 hwf
      unfold Oper.wp
      rw [hF.eval]
      generalize (execOp (ev φ) o).run P w = r at hok
      cases r with
      | ok x w' =>
        cases x <;> simp only [Oper.upon] <;> simp only at hok
        case value v => exact next v w' hok
        case skip => exact next undef w' hok
        case enter g args =>
          exact Calls.mono hok fun e w'' ⟨v, he, hg⟩ => by subst he; exact next v w'' hg
        all_goals exact hok.elim
      | halt x w' => exact hok.elim

/-- One operation, the others as they are. -/
theorem inv_op (hB : wellB l n = true) {Q : Exit → Act → World → Prop} (hstep : ∀ i o, l[i]? = some o → OpOk P l F V R T φ0 i o) {listed : Array Bool} {a : Act} {w : World} {i : Nat} {o : Oper} {K : Act → World → Prop} (hs : listed.size = l.length) (hio : l[i]? = some o) (hun : listed.getD i true = false)
    (hdep : ∀ e ∈ o.after, Region.binds .any e = true → listed.getD e.on false = true) (hI : Inv l F V R T φ0 n listed a w) (hK : ∀ a' w', Inv l F V R T φ0 n (listed.setIfInBounds i true) a' w' → K a' w') :
    if Region.wanted o (yielded l.toArray a.tmps) = true then o.wp P a w K Q else K (a.put o.dst undef) w := by
    have hlt : i < l.length := (List.getElem?_eq_some_iff.1 hio).1
    obtain ⟨φ, hF, hR, htk, hdc, h0, hv, hvn⟩ := hI
    have hok := hstep i o hio φ w hR (htk i hlt hun) h0 (fun e he hd oj d hj hdj => by
      have hb : Region.binds .any e = true := by
        obtain ⟨on, g⟩ := e
        cases g <;> first | rfl | cases hd
      have hl := hdep e he hb
      refine hv e.on oj d hj hdj ?_ (.inr ⟨i, o, hio, hun, ?_⟩)
      · cases hx : listed[e.on]? with
        | none => simp [Array.getD_eq_getD_getElem?, hx] at hl
        | some b => simpa [Array.getD_eq_getD_getElem?, hx] using hl
      · exact List.any_eq_true.2 ⟨e, Array.mem_toList_iff.2 he, by simp [hd]⟩)
    have hw : Region.wanted o (yielded l.toArray a.tmps) = wantF l φ o := by
      have hall : ∀ (k : Nat) (ok : Oper) (d : Nat), l[k]? = some ok → ok.dst = some d → d < n := fun k ok d hk hd => by
        have h1 := hB
        simp only [wellB, Bool.and_eq_true, List.all_eq_true] at h1
        have h2 := h1.1.1 ok (List.mem_of_getElem? hk)
        rw [hd] at h2
        simpa using h2
      unfold wantF Region.wanted
      cases o.guard with
      | none => rfl
      | some g =>
        obtain ⟨j, want⟩ := g
        have : yielded l.toArray a.tmps j = (match (l[j]?).bind (·.dst) with
          | some d => match φ d with
            | .bool b => some b
            | _ => none
          | none => none) := by
          unfold yielded
          rw [List.getElem?_toArray]
          cases hj : l[j]? with
          | none => rfl
          | some oj =>
            cases hd : oj.dst with
            | none => simp [hd]
            | some d =>
              have hlt2 : d < a.tmps.size := by rw [hF.2.1]; exact hall j oj d hj hd
              have h3 := hF.2.2 d
              simp only [Array.getD_eq_getD_getElem?, Array.getElem?_eq_getElem hlt2, Option.getD_some] at h3
              simp only [Option.bind_some, hd, Array.getElem?_eq_getElem hlt2, h3]
              cases φ d <;> rfl
        simp only [this]
    have next : ∀ v w', Good l F V R T i v w w' → K (a.put o.dst v) w' := fun v w' hg => hK _ _ (Inv.step hB hs hio hun hF htk hdc hdep h0 hv hvn hg)
    rw [hw]
    cases hwf : wantF l φ o with
    | false =>
      simp only [Bool.false_eq_true, if_false]
      exact next undef w (hok.2 hwf)
    | true =>
      simp only [if_true]
      have hok := hok.1 hwf
      unfold Oper.wp
      rw [hF.eval]
      generalize (execOp (ev φ) o).run P w = r at hok
      cases r with
      | ok x w' =>
        cases x <;> simp only [Oper.upon] <;> simp only at hok
        case value v => exact next v w' hok
        case skip => exact next undef w' hok
        case enter g args =>
          exact Calls.mono hok fun e w'' ⟨v, he, hg⟩ => by subst he; exact next v w'' hg
        all_goals exact hok.elim
      | halt x w' => exact hok.elim

theorem wpList_inv (hB : wellB l n = true) {Q : Exit → Act → World → Prop} (hstep : ∀ i o, l[i]? = some o → OpOk P l F V R T φ0 i o)
    (hend : ∀ φ a w, Fr n a φ → R w → (∀ t, isDst l t = false → φ t = φ0 t) → (∀ j o d, F j = true → l[j]? = some o → o.dst = some d → V j (φ d) w) → (∀ j o, F j = true → l[j]? = some o → o.dst = none → ∃ u, V j u w) → Q .normal a w) :
    ∀ (rest : List Oper) (k : Nat) (listed : Array Bool) (a : Act) (w : World), l.drop k = rest → listed.size = l.length → (∀ j, j < l.length → (listed.getD j true = true ↔ j < k)) → Inv l F V R T φ0 n listed a w → wpList P l.toArray Q rest a w
  | [], k, listed, a, w, hd, hs, hl, hI => by
    obtain ⟨φ, hF, hR, htk, hdc, h0, hv, hvn⟩ := hI
    have hall : ∀ j, j < l.length → listed.getD j true = true := fun j hj => (hl j hj).2 (by have := List.drop_eq_nil_iff.1 hd; omega)
    exact hend φ a w hF hR h0 (fun j o d hf hj hd => hv j o d hj hd (hall j (List.getElem?_eq_some_iff.1 hj).1) (.inl hf)) (fun j o hf hj hd => hvn j o hj hd (hall j (List.getElem?_eq_some_iff.1 hj).1) (.inl hf))
  | o :: rest, k, listed, a, w, hd, hs, hl, hI => by
    have hio : l[k]? = some o := by
      have := List.getElem?_drop (xs := l) (i := k) (j := 0)
      rw [hd] at this
      simpa using this.symm
    have hlt : k < l.length := (List.getElem?_eq_some_iff.1 hio).1
    have hun : listed.getD k true = false := by
      cases h : listed.getD k true with
      | false => rfl
      | true => exact absurd ((hl k hlt).1 h) (Nat.lt_irrefl k)
    have hdep : ∀ e ∈ o.after, Region.binds .any e = true → listed.getD e.on false = true := fun e he hb => by
      have h1 := hB
      simp only [wellB, Bool.and_eq_true, List.all_eq_true, List.mem_range] at h1
      have h2 := h1.2 k hlt
      rw [hio] at h2
      have h3 : e.on < k := by simpa [hb] using Array.all_eq_true_iff_forall_mem.1 h2 e he
      have h4 := (hl e.on (by omega)).2 h3
      have h5 : e.on < listed.size := by omega
      simpa [Array.getD_eq_getD_getElem?, h5] using h4
    have hdrop : l.drop (k + 1) = rest := by
      have : l.drop (k + 1) = (l.drop k).drop 1 := by rw [List.drop_drop]
      rw [this, hd]; rfl
    have h := inv_op (P := P) (Q := Q) (K := wpList P l.toArray Q rest) hB hstep hs hio hun hdep hI (fun a' w' hI' => wpList_inv hB hstep hend rest (k + 1) _ a' w' hdrop (by simpa using hs) (fun j hj => by
      by_cases e : j = k
      · subst e
        simp [Array.getD_eq_getD_getElem?, Array.getElem?_setIfInBounds, hs, hj]
      · rw [getD_set_ne true (Ne.symm e), hl j hj]
        omega) hI')
    unfold wpList
    split at h
    · rename_i hw
      rw [if_pos hw]
      exact .inl h
    · rename_i hw
      rw [if_neg hw]
      exact h
/-- The rule for a plain region. -/
theorem wp_region_plain {id : Nat} {Q : Exit → Act → World → Prop} {t0 : Array Value} {w : World} (l : List Oper) (F : Nat → Bool) (V : Nat → Value → World → Prop) (R : World → Prop) (T : Nat → World → Prop) (n : Nat) (hn : t0.size = n) (hB : wellB l n = true) (hR : R w) (hT : ∀ i, i < l.length → T i w)
    (hstep : ∀ i o, l[i]? = some o → OpOk P l F V R T (fun k => t0.getD k undef) i o)
    (hend : ∀ φ a w, Fr n a φ → R w → (∀ t, isDst l t = false → φ t = t0.getD t undef) → (∀ j o d, F j = true → l[j]? = some o → o.dst = some d → V j (φ d) w) → (∀ j o, F j = true → l[j]? = some o → o.dst = none → ∃ u, V j u w) → Q .normal a w) :
    (Code.region id l.toArray false).wp P Q ⟨t0, []⟩ w := by
  refine wp_region_lit (wpList_inv hB hstep hend l 0 (Array.replicate l.length false) _ _ rfl (by simp) (fun j hj => ?_) ⟨_, Fr.lit hn, hR, fun i hi _ => hT i hi, fun j oj hj hl => ?_, fun _ _ => rfl, fun j oj d hj _ hl => ?_, fun j oj hj _ hl => ?_⟩)
  · simp [Array.getD_eq_getD_getElem?, hj]
  · have : j < l.length := (List.getElem?_eq_some_iff.1 hj).1
    simp [Array.getD_eq_getD_getElem?, this] at hl
  · have : j < l.length := (List.getElem?_eq_some_iff.1 hj).1
    simp [Array.getD_eq_getD_getElem?, this] at hl
  · have : j < l.length := (List.getElem?_eq_some_iff.1 hj).1
    simp [Array.getD_eq_getD_getElem?, this] at hl
/-- The rule. -/
theorem wp_region_og {id : Nat} {Q : Exit → Act → World → Prop} {t0 : Array Value} {w : World} (l : List Oper) (F : Nat → Bool) (V : Nat → Value → World → Prop) (R : World → Prop) (T : Nat → World → Prop) (n : Nat) (hn : t0.size = n) (hm : P.follows .mixedOrders = true) (hB : wellB l n = true) (hR : R { w with drawn := w.drawn + 1 }) (hT : ∀ i, i < l.length → T i { w with drawn := w.drawn + 1 })
    (hstep : ∀ i o, l[i]? = some o → OpOk P l F V R T (fun k => t0.getD k undef) i o)
    (hend : ∀ φ a w, Fr n a φ → R w → (∀ t, isDst l t = false → φ t = t0.getD t undef) → (∀ j o d, F j = true → l[j]? = some o → o.dst = some d → V j (φ d) w) → (∀ j o, F j = true → l[j]? = some o → o.dst = none → ∃ u, V j u w) → Q .normal a w) :
    (Code.region id l.toArray true).wp P Q ⟨t0, []⟩ w := by
  refine wp_region_any hm (wpAny_inv hB hstep hend _ _ _ _ (by simp) (fun h i hi => ?_) ?_ ⟨_, Fr.lit hn, hR, fun i hi _ => hT i hi, fun j oj hj hl => ?_, fun _ _ => rfl, fun j oj d hj _ hl => ?_, fun j oj hj _ hl => ?_⟩)
  · simp at h; subst h; simp at hi
  · rw [List.countP_eq_length.2]
    · simp
    · intro j hj
      have : j < l.length := List.mem_range.1 hj
      simp [Array.getD_eq_getD_getElem?, this]
  · have : j < l.length := (List.getElem?_eq_some_iff.1 hj).1
    simp [Array.getD_eq_getD_getElem?, this] at hl
  · have : j < l.length := (List.getElem?_eq_some_iff.1 hj).1
    simp [Array.getD_eq_getD_getElem?, this] at hl
  · have : j < l.length := (List.getElem?_eq_some_iff.1 hj).1
    simp [Array.getD_eq_getD_getElem?, this] at hl
end
/-- What each slot holds: a value (cs), or what a writer tells of it (wr). -/
def Vt (cs : List Value) (wr : List (Nat × (Value → World → Prop))) (j : Nat) : Value → World → Prop := match wr.lookup j with
  | some p => p
  | none => fun u _ => u = cs.getD j undef
def AllOps (Q : Nat → Oper → Prop) : Nat → List Oper → Prop
  | _, [] => True
  | k, o :: r => Q k o ∧ AllOps Q (k + 1) r
theorem allOps_from {Q : Nat → Oper → Prop} : ∀ (l : List Oper) (k : Nat), AllOps Q k l → ∀ i o, l[i]? = some o → Q (k + i) o
  | [], _, _, i, o, h => by simp at h
  | x :: r, k, h, 0, o, hi => by simp only [List.getElem?_cons_zero, Option.some.injEq] at hi; subst hi; exact h.1
  | x :: r, k, h, i + 1, o, hi => by
    have := allOps_from r (k + 1) h.2 i o (by simpa using hi)
    rwa [show k + 1 + i = k + (i + 1) by omega] at this
theorem allOps {Q : Nat → Oper → Prop} {l : List Oper} (h : AllOps Q 0 l) : ∀ i o, l[i]? = some o → Q i o := fun i o hi => by
  have := allOps_from l 0 h i o hi
  rwa [Nat.zero_add] at this
section
variable {P : Program} {l : List Oper} {F : Nat → Bool} {cs : List Value} {wr : List (Nat × (Value → World → Prop))} {R : World → Prop} {T : Nat → World → Prop} {φ0 : Nat → Value} {i : Nat} {o : Oper}
/-- What an operation may lean on. -/
structure At (l : List Oper) (cs : List Value) (wr : List (Nat × (Value → World → Prop))) (R : World → Prop) (T : Nat → World → Prop) (φ0 : Nat → Value) (i : Nat) (o : Oper) (φ : Nat → Value) (w : World) : Prop where
  keep : R w
  tok : T i w
  old : ∀ t, isDst l t = false → φ t = φ0 t
  dep : ∀ e ∈ o.after, isData e = true → ∀ oj d, l[e.on]? = some oj → oj.dst = some d → Vt cs wr e.on (φ d) w
theorem At.of {φ : Nat → Value} {w : World} (h : At l cs wr R T φ0 i o φ w) (j : Nat) {oj : Oper} {d : Nat} (he : (⟨j, .data⟩ : Edge) ∈ o.after) (hj : l[j]? = some oj) (hd : oj.dst = some d) : Vt cs wr j (φ d) w := h.dep ⟨j, .data⟩ he rfl oj d hj hd
/-- An operation that is not under a guard, or whose guard is met. -/
def Wants (l : List Oper) (cs : List Value) (wr : List (Nat × (Value → World → Prop))) (R : World → Prop) (T : Nat → World → Prop) (φ0 : Nat → Value) (i : Nat) (o : Oper) (b : Bool) : Prop := ∀ φ w, At l cs wr R T φ0 i o φ w → wantF l φ o = b
theorem wants_free (hg : o.guard = none) : Wants l cs wr R T φ0 i o true := fun φ w _ => by simp [wantF, Region.wanted, hg]
/-- The guard's value is known. -/
theorem wants_of (j : Nat) (want b : Bool) {oj : Oper} {d : Nat} (hg : o.guard = some (j, want)) (he : (⟨j, .guard⟩ : Edge) ∈ o.after) (hj : l[j]? = some oj) (hd : oj.dst = some d) (hw : wr.lookup j = none) (hc : cs.getD j undef = .bool b) : Wants l cs wr R T φ0 i o (b == want) := fun φ w hA => by
  have h := hA.dep ⟨j, .guard⟩ he rfl oj d hj hd
  unfold Vt at h
  simp only [hw, hc] at h
  simp [wantF, Region.wanted, hg, hj, hd, h]
/-- The guard itself was passed over. -/
theorem wants_off (j : Nat) (want : Bool) {oj : Oper} {d : Nat} (hg : o.guard = some (j, want)) (he : (⟨j, .guard⟩ : Edge) ∈ o.after) (hj : l[j]? = some oj) (hd : oj.dst = some d) (hw : wr.lookup j = none) (hc : cs.getD j undef = undef) : Wants l cs wr R T φ0 i o false := fun φ w hA => by
  have h := hA.dep ⟨j, .guard⟩ he rfl oj d hj hd
  unfold Vt at h
  simp only [hw, hc] at h
  simp [wantF, Region.wanted, hg, hj, hd, h, undef]
theorem ok_pass (hq : Wants l cs wr R T φ0 i o false) (hi : wr.lookup i = none) (hc : cs.getD i undef = undef) : OpOk P l F (Vt cs wr) R T φ0 i o := by
  intro φ w hR hT h0 hd
  refine ⟨fun h => ?_, fun _ => ⟨hR, by unfold Vt; rw [hi]; exact hc.symm, fun _ _ h => h, fun _ _ _ h => h⟩⟩
  rw [hq φ w ⟨hR, hT, h0, hd⟩] at h
  cases h
theorem ok_val_g (c : Value) (hq : Wants l cs wr R T φ0 i o true) (hi : wr.lookup i = none) (hc : cs.getD i undef = c) (h : ∀ φ w, At l cs wr R T φ0 i o φ w → (execOp (ev φ) o).run P w = .ok (.value c) w) : OpOk P l F (Vt cs wr) R T φ0 i o := by
  intro φ w hR hT h0 hd
  refine ⟨fun _ => ?_, fun h' => by rw [hq φ w ⟨hR, hT, h0, hd⟩] at h'; cases h'⟩
  rw [h φ w ⟨hR, hT, h0, hd⟩]
  exact ⟨hR, by unfold Vt; rw [hi]; exact hc.symm, fun _ _ h => h, fun _ _ _ h => h⟩
theorem ok_val (c : Value) (hi : wr.lookup i = none) (hc : cs.getD i undef = c) (h : ∀ φ w, At l cs wr R T φ0 i o φ w → (execOp (ev φ) o).run P w = .ok (.value c) w) (hgd : o.guard = none := by rfl) : OpOk P l F (Vt cs wr) R T φ0 i o := by
  intro φ w hR hT h0 hd
  refine ⟨fun _ => ?_, fun h' => by rw [wants_free hgd φ w ⟨hR, hT, h0, hd⟩] at h'; cases h'⟩
  rw [h φ w ⟨hR, hT, h0, hd⟩]
  exact ⟨hR, by unfold Vt; rw [hi]; exact hc.symm, fun _ _ h => h, fun _ _ _ h => h⟩
/-- What the writers tell outlasts what only grows. -/
def Lasts (wr : List (Nat × (Value → World → Prop))) : Prop := ∀ x ∈ wr, ∀ u w w', x.2 u w → Below w.heap.size w w' → x.2 u w'
theorem vt_of {w w' : World} {S : Nat → Prop} (h : ∀ x ∈ wr, S x.1 → ∀ u, x.2 u w → x.2 u w') (j : Nat) (u : Value) (hS : S j) (hv : Vt cs wr j u w) : Vt cs wr j u w' := by
  unfold Vt at *
  cases hp : wr.lookup j with
  | none => rw [hp] at hv; exact hv
  | some p =>
    rw [hp] at hv
    have hm : (j, p) ∈ wr := by
      clear h hv
      induction wr with
      | nil => simp at hp
      | cons x r ih =>
        obtain ⟨k, q⟩ := x
        rw [List.lookup_cons] at hp
        by_cases e : (j == k) = true
        · rw [e] at hp
          simp only [Option.some.injEq] at hp
          have : j = k := by simpa using e
          subst this hp
          exact List.mem_cons_self ..
        · simp only [Bool.not_eq_true] at e
          rw [e] at hp
          exact List.mem_cons_of_mem _ (ih hp)
    exact h (j, p) hm hS u hv
theorem ok_call (c : Value) (f : FuncId) (args : Array Value) (hW : Lasts wr) (hRb : ∀ w w', R w → Below w.heap.size w w' → R w') (hTb : ∀ j w w', T j w → Below w.heap.size w w' → T j w') (hi : wr.lookup i = none) (hc : cs.getD i undef = c)
    (h : ∀ φ w, At l cs wr R T φ0 i o φ w → (execOp (ev φ) o).run P w = .ok (.enter f args) w ∧ Calls P f args w (fun e w' => e = .returned c ∧ Below w.heap.size w w')) (hgd : o.guard = none := by rfl) : OpOk P l F (Vt cs wr) R T φ0 i o := by
  intro φ w hR hT h0 hd
  refine ⟨fun _ => ?_, fun h' => by rw [wants_free hgd φ w ⟨hR, hT, h0, hd⟩] at h'; cases h'⟩
  obtain ⟨h1, h2⟩ := h φ w ⟨hR, hT, h0, hd⟩
  rw [h1]
  refine h2.mono fun e w' ⟨he, hb⟩ => ⟨c, he, hRb w w' hR hb, by unfold Vt; rw [hi]; exact hc.symm, fun j _ h => hTb j w w' h hb, fun j u _ hv => vt_of (S := fun _ => True) (fun x hx _ u hu => hW x hx u w w' hu hb) j u trivial hv⟩
/-- A call whose arguments hang on what writers yielded. -/
theorem ok_call_at (c : Value) (f : FuncId) (hW : Lasts wr) (hRb : ∀ w w', R w → Below w.heap.size w w' → R w') (hTb : ∀ j w w', T j w → Below w.heap.size w w' → T j w') (hi : wr.lookup i = none) (hc : cs.getD i undef = c)
    (h : ∀ φ w, At l cs wr R T φ0 i o φ w → ∃ args, (execOp (ev φ) o).run P w = .ok (.enter f args) w ∧ Calls P f args w (fun e w' => e = .returned c ∧ Below w.heap.size w w')) (hgd : o.guard = none := by rfl) : OpOk P l F (Vt cs wr) R T φ0 i o := by
  intro φ w hR hT h0 hd
  refine ⟨fun _ => ?_, fun h' => by rw [wants_free hgd φ w ⟨hR, hT, h0, hd⟩] at h'; cases h'⟩
  obtain ⟨args, h1, h2⟩ := h φ w ⟨hR, hT, h0, hd⟩
  rw [h1]
  refine h2.mono fun e w' ⟨he, hb⟩ => ⟨c, he, hRb w w' hR hb, by unfold Vt; rw [hi]; exact hc.symm, fun j _ h => hTb j w w' h hb, fun j u _ hv => vt_of (S := fun _ => True) (fun x hx _ u hu => hW x hx u w w' hu hb) j u trivial hv⟩
theorem ok_wval (p : Value → World → Prop) (hi : wr.lookup i = some p)
    (h : ∀ φ w, At l cs wr R T φ0 i o φ w → ∃ v w', (execOp (ev φ) o).run P w = .ok (.value v) w' ∧ R w' ∧ p v w' ∧ (∀ j, open_ l j i = true → T j w → T j w') ∧ ∀ x ∈ wr, need l F x.1 i = true → ∀ u, x.2 u w → x.2 u w') (hgd : o.guard = none := by rfl) : OpOk P l F (Vt cs wr) R T φ0 i o := by
  intro φ w hR hT h0 hd
  refine ⟨fun _ => ?_, fun h' => by rw [wants_free hgd φ w ⟨hR, hT, h0, hd⟩] at h'; cases h'⟩
  obtain ⟨v, w', h1, h2, h3, h5, h4⟩ := h φ w ⟨hR, hT, h0, hd⟩
  rw [h1]
  exact ⟨h2, by unfold Vt; rw [hi]; exact h3, h5, fun j u hn hv => vt_of (S := fun j => need l F j i = true) (fun x hx hs u hu => h4 x hx hs u hu) j u hn hv⟩
theorem ok_wcall (p : Value → World → Prop) (hi : wr.lookup i = some p)
    (h : ∀ φ w, At l cs wr R T φ0 i o φ w → ∃ f args, (execOp (ev φ) o).run P w = .ok (.enter f args) w ∧ Calls P f args w (fun e w' => ∃ v, e = .returned v ∧ R w' ∧ p v w' ∧ (∀ j, open_ l j i = true → T j w → T j w') ∧ ∀ x ∈ wr, need l F x.1 i = true → ∀ u, x.2 u w → x.2 u w')) (hgd : o.guard = none := by rfl) : OpOk P l F (Vt cs wr) R T φ0 i o := by
  intro φ w hR hT h0 hd
  refine ⟨fun _ => ?_, fun h' => by rw [wants_free hgd φ w ⟨hR, hT, h0, hd⟩] at h'; cases h'⟩
  obtain ⟨f, args, h1, h2⟩ := h φ w ⟨hR, hT, h0, hd⟩
  rw [h1]
  exact h2.mono fun e w' ⟨v, he, h3, h4, h6, h5⟩ => ⟨v, he, h3, by unfold Vt; rw [hi]; exact h4, h6, fun j u hn hv => vt_of (S := fun j => need l F j i = true) (fun x hx hs u hu => h5 x hx hs u hu) j u hn hv⟩
/-- The function is one of the program's. -/
def Enters (P : Program) (f : FuncId) : Prop := ∀ args w, (callFunc f args).run P w = .ok (.enter f args) w
/-- A call of a function value. -/
theorem exec_call {ρ : Operand → Value} {x : Operand} {xs : Array Operand} {ts : Array TypeId} {f : FuncId} (ho : o.op = .call { callee := .value x, args := xs, argTypes := ts }) (hf : Enters P f) (hx : ρ x = .func (.func f) #[] #[]) (w : World) :
    (execOp ρ o).run P w = .ok (.enter f (xs.map ρ)) w := by
  unfold execOp
  rw [ho]
  simp [resolve, invoke, hx, Deferred.ofValue, hf _ _]
theorem ok_call_fn (c : Value) (x : Operand) (xs : Array Operand) (ts : Array TypeId) (hW : Lasts wr) (hRb : ∀ w w', R w → Below w.heap.size w w' → R w') (hTb : ∀ j w w', T j w → Below w.heap.size w w' → T j w') (hi : wr.lookup i = none) (hc : cs.getD i undef = c)
    (ho : o.op = .call { callee := .value x, args := xs, argTypes := ts }) (h : ∀ φ w, At l cs wr R T φ0 i o φ w → ∃ f args, Enters P f ∧ ev φ x = .func (.func f) #[] #[] ∧ xs.map (ev φ) = args ∧ Calls P f args w (fun e w' => e = .returned c ∧ Below w.heap.size w w')) (hgd : o.guard = none := by rfl) : OpOk P l F (Vt cs wr) R T φ0 i o := by
  intro φ w hR hT h0 hd
  refine ⟨fun _ => ?_, fun h' => by rw [wants_free hgd φ w ⟨hR, hT, h0, hd⟩] at h'; cases h'⟩
  obtain ⟨f, args, hf, h1, h2, h3⟩ := h φ w ⟨hR, hT, h0, hd⟩
  rw [exec_call ho hf h1, h2]
  refine h3.mono fun e w' ⟨he, hb⟩ => ⟨c, he, hRb w w' hR hb, by unfold Vt; rw [hi]; exact hc.symm, fun j _ h => hTb j w w' h hb, fun j u _ hv => vt_of (S := fun _ => True) (fun x hx _ u hu => hW x hx u w w' hu hb) j u trivial hv⟩
theorem ok_wcall_fn (p : Value → World → Prop) (x : Operand) (xs : Array Operand) (ts : Array TypeId) (hi : wr.lookup i = some p) (ho : o.op = .call { callee := .value x, args := xs, argTypes := ts })
    (h : ∀ φ w, At l cs wr R T φ0 i o φ w → ∃ f args, Enters P f ∧ ev φ x = .func (.func f) #[] #[] ∧ xs.map (ev φ) = args ∧ Calls P f args w (fun e w' => ∃ v, e = .returned v ∧ R w' ∧ p v w' ∧ (∀ j, open_ l j i = true → T j w → T j w') ∧ ∀ x ∈ wr, need l F x.1 i = true → ∀ u, x.2 u w → x.2 u w')) (hgd : o.guard = none := by rfl) : OpOk P l F (Vt cs wr) R T φ0 i o :=
  ok_wcall p hi (hgd := hgd) fun φ w hA => by
    obtain ⟨f, args, hf, h1, h2, h3⟩ := h φ w hA
    exact ⟨f, args, by rw [exec_call ho hf h1, h2], h3⟩
/-- A call that makes memory of its own and leaves what was there. -/
theorem ok_gcall_fn (p : Value → World → Prop) (x : Operand) (xs : Array Operand) (ts : Array TypeId) (hW : Lasts wr) (hRb : ∀ w w', R w → Below w.heap.size w w' → R w') (hTb : ∀ j w w', T j w → Below w.heap.size w w' → T j w') (hi : wr.lookup i = some p) (ho : o.op = .call { callee := .value x, args := xs, argTypes := ts })
    (h : ∀ φ w, At l cs wr R T φ0 i o φ w → ∃ f args, Enters P f ∧ ev φ x = .func (.func f) #[] #[] ∧ xs.map (ev φ) = args ∧ Calls P f args w (fun e w' => ∃ v, e = .returned v ∧ p v w' ∧ Below w.heap.size w w')) (hgd : o.guard = none := by rfl) : OpOk P l F (Vt cs wr) R T φ0 i o :=
  ok_wcall_fn p x xs ts hi ho (hgd := hgd) fun φ w hA => by
    obtain ⟨f, args, hf, h1, h2, h3⟩ := h φ w hA
    exact ⟨f, args, hf, h1, h2, h3.mono fun e w' ⟨v, he, hp, hb⟩ => ⟨v, he, hRb w w' hA.keep hb, hp, fun j _ h => hTb j w w' h hb, fun x hx _ u hu => hW x hx u w w' hu hb⟩⟩
/-- A writer's value, passed on. -/
theorem ok_wpass (p : Value → World → Prop) (d : Nat) (hi : wr.lookup i = some p) (ho : o.op = .move (.tmp d) ∨ o.op = .assign (.tmp d)) (h : ∀ φ w, At l cs wr R T φ0 i o φ w → p (φ d) w) (hgd : o.guard = none := by rfl) : OpOk P l F (Vt cs wr) R T φ0 i o :=
  ok_wval p hi (hgd := hgd) fun φ w hA => by
    refine ⟨φ d, w, ?_, hA.keep, h φ w hA, fun _ _ h => h, fun _ _ _ _ h => h⟩
    unfold execOp
    rcases ho with ho | ho <;> rw [ho] <;> simp [ev]
/-- append at the operation. -/
theorem exec_append {ρ : Operand → Value} {s x : Operand} {t : TypeId} {w w' : World} {v : Value} (ho : o.op = .call { callee := .builtin .append, args := #[s, x], argTypes := #[t, t] }) (h : (Builtin.append_ #[t, t] o.type #[ρ s, ρ x]).run P w = .ok v w') :
    (execOp ρ o).run P w = .ok (.value v) w' := by
  unfold execOp
  simp only [ho, resolve, invoke, builtin, Sem.run_bind, Sem.run_pure, Result.andThen_ok, List.map_toArray, List.map_cons, List.map_nil, h]
theorem exec_index {ρ : Operand → Value} {x y : Operand} {t : TypeId} {w : World} {v : Value} (ho : o.op = .index t x y) (h : (Instr.index t (ρ x) (ρ y)).run P w = .ok v w) : (execOp ρ o).run P w = .ok (.value v) w := by
  unfold execOp
  simp [ho, h]
theorem exec_field {ρ : Operand → Value} {x : Operand} {t : TypeId} {k : Nat} {w : World} {v : Value} (ho : o.op = .field t x k) (h : (Instr.field t (ρ x) k).run P w = .ok v w) : (execOp ρ o).run P w = .ok (.value v) w := by
  unfold execOp
  simp [ho, h]
/-- A load at the operation. -/
theorem exec_load {ρ : Operand → Value} {x : Operand} {t : TypeId} {w : World} {v : Value} (ho : o.op = .load t x) (h : (Instr.loadAt t (ρ x)).run P w = .ok v w) : (execOp ρ o).run P w = .ok (.value v) w := by
  unfold execOp
  simp [ho, h]
/-- A writer that yields nothing (a store). -/
theorem ok_wskip (p : Value → World → Prop) (hi : wr.lookup i = some p)
    (h : ∀ φ w, At l cs wr R T φ0 i o φ w → ∃ w', (execOp (ev φ) o).run P w = .ok .skip w' ∧ R w' ∧ p undef w' ∧ (∀ j, open_ l j i = true → T j w → T j w') ∧ ∀ x ∈ wr, need l F x.1 i = true → ∀ u, x.2 u w → x.2 u w') (hgd : o.guard = none := by rfl) : OpOk P l F (Vt cs wr) R T φ0 i o := by
  intro φ w hR hT h0 hd
  refine ⟨fun _ => ?_, fun h' => by rw [wants_free hgd φ w ⟨hR, hT, h0, hd⟩] at h'; cases h'⟩
  obtain ⟨w', h1, h2, h3, h5, h4⟩ := h φ w ⟨hR, hT, h0, hd⟩
  rw [h1]
  exact ⟨h2, by unfold Vt; rw [hi]; exact h3, h5, fun j u hn hv => vt_of (S := fun j => need l F j i = true) (fun x hx hs u hu => h4 x hx hs u hu) j u hn hv⟩
end
/-! Plain regions, step by step, the frame a function. -/
section
variable {P : Program} {ops : Array Oper} {rest : List Oper} {o : Oper} {a : Act} {Q : Exit → Act → World → Prop} {n : Nat} {φ : Nat → Value} {w w' : World}
theorem st_start {l : List Oper} {t : Array Value} (hn : t.size = n) (h : ∀ a, Fr n a (fun k => t.getD k undef) → wpList P ops Q l a w) : wpList P ops Q l ⟨t, []⟩ w := h _ (Fr.lit hn)
theorem st_val {d : Nat} (v : Value) (hF : Fr n a φ) (hg : o.guard = none) (hd : o.dst = some d) (hn : d < n) (hr : (execOp (ev φ) o).run P w = .ok (.value v) w') (k : ∀ a', Fr n a' (upd φ d v) → wpList P ops Q rest a' w') : wpList P ops Q (o :: rest) a w := by
  refine wpList_plain hg fun K hK => ?_
  unfold Oper.wp
  rw [hF.eval, hr]
  show K (a.put o.dst v) w'
  rw [hd]
  exact hK _ _ (k _ (hF.put d v hn))
theorem st_same {d : Nat} (v : Value) (hF : Fr n a φ) (hg : o.guard = none) (hd : o.dst = some d) (hn : d < n) (hr : (execOp (ev φ) o).run P w = .ok (.value v) w) (k : ∀ a', Fr n a' (upd φ d v) → wpList P ops Q rest a' w) : wpList P ops Q (o :: rest) a w := st_val v hF hg hd hn hr k
theorem st_skip (hF : Fr n a φ) (hg : o.guard = none) (hd : o.dst = none) (hr : (execOp (ev φ) o).run P w = .ok .skip w') (k : ∀ a', Fr n a' φ → wpList P ops Q rest a' w') : wpList P ops Q (o :: rest) a w := by
  refine wpList_plain hg fun K hK => ?_
  unfold Oper.wp
  rw [hF.eval, hr]
  show K (a.put o.dst undef) w'
  rw [hd]
  exact hK _ _ (k _ hF)
theorem st_call {d : Nat} {f : FuncId} {args : Array Value} (hF : Fr n a φ) (hg : o.guard = none) (hd : o.dst = some d) (hn : d < n) (hr : (execOp (ev φ) o).run P w = .ok (.enter f args) w) (hc : Calls P f args w fun e w' => ∃ v, e = .returned v ∧ ∀ a', Fr n a' (upd φ d v) → wpList P ops Q rest a' w') : wpList P ops Q (o :: rest) a w := by
  refine wpList_plain hg fun K hK => ?_
  unfold Oper.wp
  rw [hF.eval, hr]
  refine Calls.mono hc fun e w' ⟨v, he, h⟩ => ?_
  subst he
  show K (a.put o.dst v) w'
  rw [hd]
  exact hK _ _ (h _ (hF.put d v hn))
end
end Og
end Go.Proofs.YtbgfoobcpacfeaaDoor

/- A field's bytes: the program's write. -/
namespace Go.Proofs.YtbgfoobcpacfeaaDoor
open Go.RowKit
set_option maxRecDepth 100000
set_option linter.unusedVariables false
set_option linter.unusedSimpArgs false

/-- The field's functions are of the table. -/
def FdOk : Fd → Prop
  | .num k f => 0 ≤ k ∧ k ≤ 4 ∧ f ∈ Wi.mays
  | .gens => True
  | .sum f => f = 63 ∨ f = 78
  | .dat f => f ∈ Wi.mays
instance : DecidablePred FdOk := fun x => by
  cases x <;> unfold FdOk <;> infer_instance
theorem fields_ok : ∀ c ∈ cmdTab, ∀ x ∈ c.2, FdOk x := by decide

theorem never_calls (w : World) (x : Value) : Pur Tryd.prog 63 #[x] w (.bool false) := by
  unfold Pur
  go_enter Tryd.func63, Tryd.ntmps63
  go_wp2
  go_ret
  exact ⟨rfl, (by first | exact Below.refl _ _ | exact below_alloc1 _ _ | exact below_alloc2 _ _ _ | exact below_alloc3 _ _ _ _ | (repeat' (first | assumption | exact Below.refl _ _ | exact below_alloc1 _ _ | exact below_alloc2 _ _ _ | exact below_alloc3 _ _ _ _ | (refine Below.drew ?_) | (refine below_wb ?_ ?_) | (refine Below.alloc ?_ ?_ _) | omega | (simp; done) | (simp; omega))))⟩
theorem without_calls {w : World} {b : Nat} {p : Wi.Pk} {v : Value} (h : PkAt w b p v) : Pur Tryd.prog 78 #[.pointer (some ⟨b, 0, none⟩)] w (.bool (p.flags == 1)) := by
  unfold Pur
  have h1 := h.c5
  have h2 : ((p.flags : Int) == 1) = (p.flags == 1) := by
    rw [Bool.eq_iff_iff]; simp; omega
  go_enter Tryd.func78, Tryd.ntmps78
  go_wp2
  all_goals go_ret
  all_goals exact ⟨by first | rfl | (rw [← h2]; done) | (rw [← h2]; rfl) | (rw [← h2]; simp; done), (by first | exact Below.refl _ _ | exact below_alloc1 _ _ | exact below_alloc2 _ _ _ | exact below_alloc3 _ _ _ _ | (repeat' (first | assumption | exact Below.refl _ _ | exact below_alloc1 _ _ | exact below_alloc2 _ _ _ | exact below_alloc3 _ _ _ _ | (refine Below.drew ?_) | (refine below_wb ?_ ?_) | (refine Below.alloc ?_ ?_ _) | omega | (simp; done) | (simp; omega))))⟩
theorem zero_calls {w : World} {b : Nat} {p : Wi.Pk} {v : Value} {f : FuncId} (hf : f = 63 ∨ f = 78) (h : PkAt w b p v) : Pur Tryd.prog f #[.pointer (some ⟨b, 0, none⟩)] w (.bool (Wi.zeroOf f p)) := by
  rcases hf with rfl | rfl
  · exact never_calls w _
  · exact without_calls h

theorem mays_enter : ∀ f ∈ Wi.mays, Og.Enters Tryd.prog f := by
  intro f hf
  simp only [Wi.mays, List.mem_cons, List.not_mem_nil, or_false] at hf
  rcases hf with rfl | rfl | rfl | rfl | rfl | rfl | rfl | rfl | rfl | rfl | rfl | rfl | rfl | rfl | rfl | rfl | rfl | rfl | rfl | rfl
  all_goals (intro args w; kernel_rfl)
theorem put_enter : Og.Enters Tryd.prog 51 := fun args w => by kernel_rfl
theorem meet_enter : Og.Enters Tryd.prog 82 := fun args w => by kernel_rfl
/-- What lies at spans lasts where a row grows that is not theirs. -/
theorem Spans.grown {w w' : World} {v : Value} {l : List (Nat × Nat)} {r : Option Nat} (h : Spans w v l) (hg : w.grownBy w' r) (hne : ∀ g, v.ownBlock = some g → r ≠ some g) : Spans w' v l := by
  obtain ⟨g, c, rfl, ⟨cs, fz, hk⟩, h4, hc, hr⟩ := h
  have hb : w'.heap[g]? = w.heap[g]? := hg.block g (heap_lt hk) (fun e => hne g rfl e.symm)
  refine ⟨g, c, rfl, ⟨cs, fz, hb.trans hk⟩, h4, hc, fun i s hs => ?_⟩
  obtain ⟨h1, h2, h3⟩ := hr i s hs
  exact ⟨(World.cell?_of_block hb).trans h1, (World.cell?_of_block hb).trans h2, h3⟩
theorem PkAt.grown {w w' : World} {b : Nat} {p : Wi.Pk} {v : Value} {r : Option Nat} (h : PkAt w b p v) (hg : w.grownBy w' r) (hne : r ≠ some b) : PkAt w' b p v := blk_grown h hg hne
theorem Lies.grown {g : Nat} {vs : List Value} {w w' : World} {r : Option Nat} (h : Lies g vs w) (hg : w.grownBy w' r) (hne : r ≠ some g) : Lies g vs w' :=
  ⟨Nat.lt_of_lt_of_le h.1 hg.size, fun i v hv => (World.cell?_of_block (hg.block g h.1 (fun e => hne e.symm))).trans (h.2 i v hv)⟩
theorem OB.ne {B : Nat} {w : World} {v : Value} {l : List UInt8} (h : OB B w v l) {g : Nat} (hg : g < B) : v.ownBlock ≠ some g := fun e => by have := (h.lt g e).1; omega

/-- Spans lie elsewhere than bytes. -/
theorem Spans.off {B : Nat} {w : World} {v u : Value} {l : List (Nat × Nat)} {m : List UInt8} (h : Spans w v l) (ho : OB B w u m) : ∀ g, v.ownBlock = some g → u.ownBlock ≠ some g := by
  obtain ⟨g, c, rfl, ⟨cs, fz, hk⟩, -, -, -⟩ := h
  intro g' e e'
  cases e
  obtain ⟨⟨-, ⟨rfl, -⟩ | ⟨g2, cap, cur, rfl, -, hg, -⟩⟩, -⟩ := ho
  · cases e'
  · cases e'
    rw [hk] at hg
    simp at hg

/-- The zero of a type. -/
noncomputable def zv (T : TypeId) : Value := ((Tryd.prog.info? T).bind (·.zero)).getD undef
theorem ta_num (w : World) (k : Int) (f : FuncId) : (Instr.typeAssert (fdV (.num k f)) 79 107 true).run Tryd.prog w = .ok (.tuple #[.agg #[.int .i64 k, fnV f], .bool true]) w := by kernel_rfl
theorem ta_num_g (w : World) (k : Int) (f : FuncId) : (Instr.typeAssert (fdV (.num k f)) 79 117 true).run Tryd.prog w = .ok (.tuple #[zv 117, .bool false]) w := by kernel_rfl
theorem ta_num_s (w : World) (k : Int) (f : FuncId) : (Instr.typeAssert (fdV (.num k f)) 79 113 true).run Tryd.prog w = .ok (.tuple #[zv 113, .bool false]) w := by kernel_rfl
theorem ta_num_d (w : World) (k : Int) (f : FuncId) : (Instr.typeAssert (fdV (.num k f)) 79 115 true).run Tryd.prog w = .ok (.tuple #[zv 115, .bool false]) w := by kernel_rfl
theorem ta_gens_n (w : World) : (Instr.typeAssert (fdV .gens) 79 107 true).run Tryd.prog w = .ok (.tuple #[zv 107, .bool false]) w := by kernel_rfl
theorem ta_gens (w : World) : (Instr.typeAssert (fdV .gens) 79 117 true).run Tryd.prog w = .ok (.tuple #[.agg #[], .bool true]) w := by kernel_rfl
theorem ta_gens_d (w : World) : (Instr.typeAssert (fdV .gens) 79 115 true).run Tryd.prog w = .ok (.tuple #[zv 115, .bool false]) w := by kernel_rfl
theorem ta_sum_n (w : World) (f : FuncId) : (Instr.typeAssert (fdV (.sum f)) 79 107 true).run Tryd.prog w = .ok (.tuple #[zv 107, .bool false]) w := by kernel_rfl
theorem ta_sum_g (w : World) (f : FuncId) : (Instr.typeAssert (fdV (.sum f)) 79 117 true).run Tryd.prog w = .ok (.tuple #[zv 117, .bool false]) w := by kernel_rfl
theorem ta_sum (w : World) (f : FuncId) : (Instr.typeAssert (fdV (.sum f)) 79 113 true).run Tryd.prog w = .ok (.tuple #[.agg #[fnV f], .bool true]) w := by kernel_rfl
theorem ta_sum_d (w : World) (f : FuncId) : (Instr.typeAssert (fdV (.sum f)) 79 115 true).run Tryd.prog w = .ok (.tuple #[zv 115, .bool false]) w := by kernel_rfl
theorem ta_dat_n (w : World) (f : FuncId) : (Instr.typeAssert (fdV (.dat f)) 79 107 true).run Tryd.prog w = .ok (.tuple #[zv 107, .bool false]) w := by kernel_rfl
theorem ta_dat_g (w : World) (f : FuncId) : (Instr.typeAssert (fdV (.dat f)) 79 117 true).run Tryd.prog w = .ok (.tuple #[zv 117, .bool false]) w := by kernel_rfl
theorem ta_dat_s (w : World) (f : FuncId) : (Instr.typeAssert (fdV (.dat f)) 79 113 true).run Tryd.prog w = .ok (.tuple #[zv 113, .bool false]) w := by kernel_rfl
theorem ta_dat (w : World) (f : FuncId) : (Instr.typeAssert (fdV (.dat f)) 79 115 true).run Tryd.prog w = .ok (.tuple #[.agg #[fnV f], .bool true]) w := by kernel_rfl

set_option maxHeartbeats 8000000 in
theorem write_num {w : World} {B b : Nat} {v pv : Value} {l : List UInt8} {p : Wi.Pk} (k : Int) (f : FuncId) (hf : f ∈ Wi.mays) (h : OB B w v l) (hB : B ≤ w.heap.size) (hP : PkAt w b p pv) (hp : p.Ok) (hbB : b < B) (hS : Szs w) (h3 : 3 < B) (hl : l.length + 4 ≤ 140737488355328) :
    Calls Tryd.prog 41 #[v, fdV (.num k f), .pointer (some ⟨b, 0, none⟩)] w fun e w' => ∃ v', e = .returned (.tuple #[v', .bool (Wi.okF p (.num k f))]) ∧ OB B w' v' (l ++ Wi.wrF p (.num k f)) ∧ After w w' v v' := by
  have ta := fun w => ta_num w k f
  generalize fdV (.num k f) = fv at *
  go_enter Tryd.func41, Tryd.ntmps41
  go_wp2_with fail
  refine (at_calls _ b k).out.mono ?_
  rintro e w1 ⟨rfl, hb1⟩
  have hW0 : w.heap.size < w1.heap.size := by have := hb1.size; simp at this; omega
  have hP1 := (hP.below (below_alloc1 w (.cells #[.int .i64 k, fnV f] 107))).below hb1
  have hS1 := (hS.below (below_alloc1 w (.cells #[.int .i64 k, fnV f] 107))).below hb1
  have hbx : w1.heap[w.heap.size]? = some (.cells #[.int .i64 k, fnV f] 107 (0, 0)) := blk_below (heap_new w _ _ rfl) hb1
  have ho1 := (h.below (below_alloc1 w (.cells #[.int .i64 k, fnV f] 107))).below hb1
  have ha1 : After w w1 v v := (After.alloc w v _).trans (After.below v hb1)
  have hc1 := hP1.num k
  have hx := hp.num k
  have hxw : IntKind.u64.wrap ((p.num k : Nat) : Int) = ((p.num k : Nat) : Int) := by simp only [IntKind.wrap, IntKind.bits, IntKind.signed]; simp; omega
  go_wp2_with fail
  refine Og.wp_region_og _ (fun j => j == 10 || j == 11)
    (Og.Vt [v, .int .u64 (p.num k), undef, .pointer (some ⟨w.heap.size, 1, none⟩), fnV f, .pointer (some ⟨b, 0, none⟩), undef, .int .u64 (p.num k), .int .u64 (p.num k), .bool (Wi.okF p (.num k f)), undef, .bool (Wi.okF p (.num k f))]
      [(2, fun u w' => OB B w' u (l ++ Wi.be 4 (p.num k)) ∧ After w w' v u), (6, fun u w' => Spans w' u (Wi.spansOf f p) ∧ ∀ g, u.ownBlock = some g → w.heap.size ≤ g), (10, fun u w' => OB B w' u (l ++ Wi.be 4 (p.num k)) ∧ After w w' v u)])
    (fun w' => w'.heap[w.heap.size]? = some (.cells #[.int .i64 k, fnV f] 107 (0, 0)) ∧ PkAt w' b p pv ∧ Szs w')
    (fun j w' => j = 2 → OB B w' v l ∧ After w w' v v) 117 rfl (by kernel_rfl) (by kernel_rfl) ⟨hbx, hP1, hS1⟩ (fun _ _ _ => ⟨ho1.below (Below.drew (Below.refl _ _)), ha1.trans (After.below v (Below.drew (Below.refl _ _)))⟩) (Og.allOps ⟨?_, ?_, ?_, ?_, ?_, ?_, ?_, ?_, ?_, ?_, ?_, ?_, trivial⟩) ?_
  · refine Og.ok_val _ rfl rfl fun φ w2 hA => ?_
    have e0 : φ 0 = v := hA.old 0 (by kernel_rfl)
    simp only [execOp, Og.ev, e0]
    go_simp
  · refine Og.ok_val _ rfl rfl fun φ w2 hA => ?_
    have e0 : φ 9 = .int .u64 (p.num k) := hA.old 9 (by kernel_rfl)
    simp only [execOp, Og.ev, e0]
    go_simp
  · refine Og.ok_wcall_fn _ _ _ _ rfl rfl fun φ w2 hA => ?_
    have e0 : φ 27 = v := hA.of 0 (d := 27) (by simp) rfl rfl
    have e1 : φ 28 = .int .u64 (p.num k) := hA.of 1 (d := 28) (by simp) rfl rfl
    obtain ⟨hbk, hpk, hsk⟩ := hA.keep
    obtain ⟨hob, haf⟩ := hA.tok rfl
    have hBs : B ≤ w2.heap.size := Nat.le_trans hB haf.grown.size
    refine ⟨_, #[v, .int .i64 4, .int .u64 (p.num k)], put_enter, rfl, by simp [Og.ev, e0, e1], (put_calls 4 (p.num k) hob hBs (by decide) (by omega) hl).mono ?_⟩
    rintro e w3 ⟨u, rfl, hu, hau⟩
    have hnv : v.ownBlock ≠ some w.heap.size := fun e => by have := (h.lt _ e).2; omega
    refine ⟨u, rfl, ⟨blk_grown hbk hau.grown hnv, hpk.grown hau.grown (hob.ne hbB), hsk.grown hau.grown (hob.ne h3)⟩, ⟨hu, haf.trans hau⟩, fun j hj hT hj2 => absurd (hj2 ▸ hj) (Bool.eq_false_iff.1 (by kernel_rfl)), fun x hx hn u' hu' => ?_⟩
    simp only [List.mem_cons, List.not_mem_nil, or_false] at hx
    rcases hx with rfl | rfl | rfl
    · exact absurd hn (Bool.eq_false_iff.1 (by kernel_rfl))
    · exact ⟨hu'.1.grown hau.grown (fun g hg e => by have := hu'.2 g hg; have := (h.lt _ e).2; omega), hu'.2⟩
    · exact absurd hn (Bool.eq_false_iff.1 (by kernel_rfl))
  · refine Og.ok_val _ rfl rfl fun φ w2 hA => ?_
    have e0 : φ 8 = .pointer (some ⟨w.heap.size, 0, none⟩) := hA.old 8 (by kernel_rfl)
    simp only [execOp, Og.ev, e0]
    go_simp
  · refine Og.ok_val _ rfl rfl fun φ w2 hA => ?_
    have e0 : φ 30 = .pointer (some ⟨w.heap.size, 1, none⟩) := hA.of 3 (d := 30) (by simp) rfl rfl
    obtain ⟨hbk, hpk, hsk⟩ := hA.keep
    have hc := has_cell hbk 1
    simp only [execOp, Og.ev, e0]
    go_simp
  · refine Og.ok_val _ rfl rfl fun φ w2 hA => ?_
    have e0 : φ 2 = .pointer (some ⟨b, 0, none⟩) := hA.old 2 (by kernel_rfl)
    simp only [execOp, Og.ev, e0]
    go_simp
  · refine Og.ok_gcall_fn _ _ _ _ ?_ ?_ ?_ rfl rfl fun φ w2 hA => ?_
    · intro x hx u w3 w4 hu hb
      simp only [List.mem_cons, List.not_mem_nil, or_false] at hx
      rcases hx with rfl | rfl | rfl
      · exact ⟨hu.1.below hb, hu.2.trans (After.below u hb)⟩
      · exact ⟨hu.1.below hb, hu.2⟩
      · exact ⟨hu.1.below hb, hu.2.trans (After.below u hb)⟩
    · exact fun w3 w4 hR hb => ⟨blk_below hR.1 hb, hR.2.1.below hb, hR.2.2.below hb⟩
    · exact fun j w3 w4 hT hb hj => ⟨(hT hj).1.below hb, (hT hj).2.trans (After.below v hb)⟩
    · have e0 : φ 31 = fnV f := hA.of 4 (d := 31) (by simp) rfl rfl
      have e1 : φ 32 = .pointer (some ⟨b, 0, none⟩) := hA.of 5 (d := 32) (by simp) rfl rfl
      obtain ⟨hbk, hpk, hsk⟩ := hA.keep
      refine ⟨f, #[.pointer (some ⟨b, 0, none⟩)], mays_enter f hf, e0, by simp [Og.ev, e1], (may_calls f hf hpk hp hsk).mono ?_⟩
      rintro e w3 ⟨u, rfl, hu, hg, hb⟩
      exact ⟨u, rfl, ⟨hu, fun g e => by have := hg g e; have := heap_lt hbk; omega⟩, hb⟩
  · refine Og.ok_val _ rfl rfl fun φ w2 hA => ?_
    have e0 : φ 9 = .int .u64 (p.num k) := hA.old 9 (by kernel_rfl)
    simp only [execOp, Og.ev, e0]
    go_simp
  · refine Og.ok_val _ rfl rfl fun φ w2 hA => ?_
    have e0 : φ 9 = .int .u64 (p.num k) := hA.old 9 (by kernel_rfl)
    simp only [execOp, Og.ev, e0]
    go_simp
  · refine Og.ok_call_fn _ _ _ _ ?_ ?_ ?_ rfl rfl rfl fun φ w2 hA => ?_
    · intro x hx u w3 w4 hu hb
      simp only [List.mem_cons, List.not_mem_nil, or_false] at hx
      rcases hx with rfl | rfl | rfl
      · exact ⟨hu.1.below hb, hu.2.trans (After.below u hb)⟩
      · exact ⟨hu.1.below hb, hu.2⟩
      · exact ⟨hu.1.below hb, hu.2.trans (After.below u hb)⟩
    · exact fun w3 w4 hR hb => ⟨blk_below hR.1 hb, hR.2.1.below hb, hR.2.2.below hb⟩
    · exact fun j w3 w4 hT hb hj => ⟨(hT hj).1.below hb, (hT hj).2.trans (After.below v hb)⟩
    · have e0 := hA.of 6 (d := 33) (by simp) rfl rfl
      have e1 : φ 34 = .int .u64 (p.num k) := hA.of 7 (d := 34) (by simp) rfl rfl
      have e2 : φ 35 = .int .u64 (p.num k) := hA.of 8 (d := 35) (by simp) rfl rfl
      exact ⟨_, #[φ 33, .int .u64 (p.num k), .int .u64 (p.num k)], meet_enter, rfl, by simp [Og.ev, e1, e2], (meet_calls e0.1 (p.num k) (p.num k) (by omega) (by omega)).out⟩
  · exact Og.ok_wpass _ 29 rfl (.inr rfl) fun φ w2 hA => hA.of 2 (d := 29) (by simp) rfl rfl
  · refine Og.ok_val _ rfl rfl fun φ w2 hA => ?_
    have e0 : φ 36 = .bool (Wi.okF p (.num k f)) := hA.of 9 (d := 36) (by simp) rfl rfl
    simp only [execOp, Og.ev, e0]
    go_simp
  · rename_i hnext
    intro φ a w2 hF hR h0 hV _
    obtain ⟨hv1, hv2⟩ := hV 10 _ 6 rfl rfl rfl
    have hv3 : φ 7 = .bool (Wi.okF p (.num k f)) := hV 11 _ 7 rfl rfl rfl
    refine hnext a w2 (wp_ret ?_)
    simp only [Exit.inBlock, Exit.then]
    refine bodyPost_ret (v := .tuple #[φ 6, .bool (Wi.okF p (.num k f))]) ?_ hF.1 ?_
    · rw [← hv3, ← hF.2.2 6, ← hF.2.2 7]
      exact results_tmp2 rfl _ _ _
    · exact ⟨φ 6, rfl, hv1, hv2⟩
end Go.Proofs.YtbgfoobcpacfeaaDoor

/- write of the identifiers. (Printed by wip/w7gen/mkwrite2.py.) -/
namespace Go.Proofs.YtbgfoobcpacfeaaDoor
open Go.RowKit
set_option maxRecDepth 100000
set_option linter.unusedVariables false
set_option linter.unusedSimpArgs false

/-- The loop of the identifiers. -/
def GensI (fv v : Value) (w : World) (B b g : Nat) (l : List UInt8) (gs : List Nat) (cs : Array Value) (i : Nat) (a : Act) (w' : World) : Prop :=
  ∃ v', (∃ U : Nat → Value, a = ⟨#[v', fv, .pointer (some ⟨b, 0, none⟩), U 3, U 4, U 5, U 6, U 7, U 8, U 9, U 10, U 11, U 12, U 13, U 14, U 15, U 16, U 17, U 18, U 19, U 20, U 21, U 22, U 23, U 24, U 25, U 26, U 27, U 28, U 29, U 30, U 31, U 32, U 33, U 34, U 35, U 36, U 37, U 38, U 39, U 40, U 41, U 42, U 43, U 44, U 45, U 46, U 47, U 48, U 49, U 50, U 51, U 52, U 53, U 54, U 55, U 56, U 57, U 58, U 59, .slice (some ⟨g, 0, none⟩) 4 4, .int .i64 4, .int .i64 i, U 63, U 64, U 65, U 66, U 67, U 68, U 69, U 70, U 71, U 72, U 73, U 74, U 75, U 76, U 77, U 78, U 79, U 80, U 81, U 82, U 83, U 84, U 85, U 86, U 87, U 88, U 89, U 90, U 91, U 92, U 93, U 94, U 95, U 96, U 97, U 98, U 99, U 100, U 101, U 102, U 103, U 104, U 105, U 106, U 107, U 108, U 109, U 110, U 111, U 112, U 113, U 114, U 115, U 116], []⟩) ∧ OB B w' v' (l ++ (gs.take i).flatMap (Wi.be 8)) ∧ After w w' v v' ∧ w'.heap[g]? = some (.cells cs 28 (0, 0)) ∧ v'.ownBlock ≠ some g

set_option maxHeartbeats 8000000 in
theorem write_gens {w : World} {B b : Nat} {v pv : Value} {l : List UInt8} {p : Wi.Pk} (h : OB B w v l) (hB : B ≤ w.heap.size) (hP : PkAt w b p pv) (hp : p.Ok) (hbB : b < B) (hl : l.length + 32 ≤ 140737488355328) :
    Calls Tryd.prog 41 #[v, fdV .gens, .pointer (some ⟨b, 0, none⟩)] w fun e w' => ∃ v', e = .returned (.tuple #[v', .bool (Wi.okF p .gens)]) ∧ OB B w' v' (l ++ Wi.wrF p .gens) ∧ After w w' v v' := by
  have ta := ta_gens_n
  have ta2 := ta_gens
  generalize hfv : fdV .gens = fv at *
  clear hfv
  generalize zv 107 = z1 at *
  go_enter Tryd.func41, Tryd.ntmps41
  go_wp2_with fail
  have hb1 := below_alloc1 w (.cells #[] 117)
  refine Og.wp_region_og _ (fun j => j == 20 || j == 21 || j == 22)
    (Og.Vt [.pointer (some ⟨b, 0, none⟩), .pointer (some ⟨b, 0, none⟩), .pointer (some ⟨b, 6, none⟩), .pointer (some ⟨b, 6, none⟩), .int .u64 p.g1, .pointer (some ⟨b, 0, none⟩), .pointer (some ⟨b, 0, none⟩), .pointer (some ⟨b, 6, none⟩), .pointer (some ⟨b, 7, none⟩), .int .u64 p.g2, .pointer (some ⟨b, 0, none⟩), .pointer (some ⟨b, 0, none⟩), .pointer (some ⟨b, 6, none⟩), .pointer (some ⟨b, 8, none⟩), .int .u64 p.g3, .pointer (some ⟨b, 0, none⟩), .pointer (some ⟨b, 0, none⟩), .pointer (some ⟨b, 6, none⟩), .pointer (some ⟨b, 9, none⟩), .int .u64 p.g4, undef, .int .i64 4, .int .i64 0] [(20, fun u w' => ∃ g, u = .slice (some ⟨g, 0, none⟩) 4 4 ∧ w'.heap[g]? = some (.cells #[.int .u64 p.g1, .int .u64 p.g2, .int .u64 p.g3, .int .u64 p.g4] 28 (0, 0)) ∧ w.heap.size ≤ g)])
    (fun w' => PkAt w' b p pv ∧ OB B w' v l ∧ After w w' v v)
    (fun _ _ => True) 117 rfl (by kernel_rfl) (by kernel_rfl) ⟨(hP.below hb1).below (Below.drew (Below.refl _ _)), (h.below hb1).below (Below.drew (Below.refl _ _)), (After.alloc w v _).trans (After.below v (Below.drew (Below.refl _ _)))⟩ (fun _ _ => trivial) (Og.allOps ⟨?_, ?_, ?_, ?_, ?_, ?_, ?_, ?_, ?_, ?_, ?_, ?_, ?_, ?_, ?_, ?_, ?_, ?_, ?_, ?_, ?_, ?_, ?_, trivial⟩) ?_
  · refine Og.ok_val _ rfl rfl fun φ w2 hA => ?_
    have e2 : φ 2 = .pointer (some ⟨b, 0, none⟩) := hA.old 2 (by kernel_rfl)
    simp only [execOp, Og.ev, e2]
    go_simp
  · refine Og.ok_val _ rfl rfl fun φ w2 hA => ?_
    have e40 : φ 40 = .pointer (some ⟨b, 0, none⟩) := hA.of 0 (d := 40) (by simp) rfl rfl
    simp only [execOp, Og.ev, e40]
    go_simp
  · refine Og.ok_val _ rfl rfl fun φ w2 hA => ?_
    have e41 : φ 41 = .pointer (some ⟨b, 0, none⟩) := hA.of 1 (d := 41) (by simp) rfl rfl
    simp only [execOp, Og.ev, e41]
    go_simp
  · refine Og.ok_val _ rfl rfl fun φ w2 hA => ?_
    have e42 : φ 42 = .pointer (some ⟨b, 6, none⟩) := hA.of 2 (d := 42) (by simp) rfl rfl
    simp only [execOp, Og.ev, e42]
    go_simp
  · refine Og.ok_val _ rfl rfl fun φ w2 hA => ?_
    have e43 : φ 43 = .pointer (some ⟨b, 6, none⟩) := hA.of 3 (d := 43) (by simp) rfl rfl
    have hc := hA.keep.1.c6
    simp only [execOp, Og.ev, e43]
    go_simp
  · refine Og.ok_val _ rfl rfl fun φ w2 hA => ?_
    have e2 : φ 2 = .pointer (some ⟨b, 0, none⟩) := hA.old 2 (by kernel_rfl)
    simp only [execOp, Og.ev, e2]
    go_simp
  · refine Og.ok_val _ rfl rfl fun φ w2 hA => ?_
    have e45 : φ 45 = .pointer (some ⟨b, 0, none⟩) := hA.of 5 (d := 45) (by simp) rfl rfl
    simp only [execOp, Og.ev, e45]
    go_simp
  · refine Og.ok_val _ rfl rfl fun φ w2 hA => ?_
    have e46 : φ 46 = .pointer (some ⟨b, 0, none⟩) := hA.of 6 (d := 46) (by simp) rfl rfl
    simp only [execOp, Og.ev, e46]
    go_simp
  · refine Og.ok_val _ rfl rfl fun φ w2 hA => ?_
    have e47 : φ 47 = .pointer (some ⟨b, 6, none⟩) := hA.of 7 (d := 47) (by simp) rfl rfl
    simp only [execOp, Og.ev, e47]
    go_simp
  · refine Og.ok_val _ rfl rfl fun φ w2 hA => ?_
    have e48 : φ 48 = .pointer (some ⟨b, 7, none⟩) := hA.of 8 (d := 48) (by simp) rfl rfl
    have hc := hA.keep.1.c7
    simp only [execOp, Og.ev, e48]
    go_simp
  · refine Og.ok_val _ rfl rfl fun φ w2 hA => ?_
    have e2 : φ 2 = .pointer (some ⟨b, 0, none⟩) := hA.old 2 (by kernel_rfl)
    simp only [execOp, Og.ev, e2]
    go_simp
  · refine Og.ok_val _ rfl rfl fun φ w2 hA => ?_
    have e50 : φ 50 = .pointer (some ⟨b, 0, none⟩) := hA.of 10 (d := 50) (by simp) rfl rfl
    simp only [execOp, Og.ev, e50]
    go_simp
  · refine Og.ok_val _ rfl rfl fun φ w2 hA => ?_
    have e51 : φ 51 = .pointer (some ⟨b, 0, none⟩) := hA.of 11 (d := 51) (by simp) rfl rfl
    simp only [execOp, Og.ev, e51]
    go_simp
  · refine Og.ok_val _ rfl rfl fun φ w2 hA => ?_
    have e52 : φ 52 = .pointer (some ⟨b, 6, none⟩) := hA.of 12 (d := 52) (by simp) rfl rfl
    simp only [execOp, Og.ev, e52]
    go_simp
  · refine Og.ok_val _ rfl rfl fun φ w2 hA => ?_
    have e53 : φ 53 = .pointer (some ⟨b, 8, none⟩) := hA.of 13 (d := 53) (by simp) rfl rfl
    have hc := hA.keep.1.c8
    simp only [execOp, Og.ev, e53]
    go_simp
  · refine Og.ok_val _ rfl rfl fun φ w2 hA => ?_
    have e2 : φ 2 = .pointer (some ⟨b, 0, none⟩) := hA.old 2 (by kernel_rfl)
    simp only [execOp, Og.ev, e2]
    go_simp
  · refine Og.ok_val _ rfl rfl fun φ w2 hA => ?_
    have e55 : φ 55 = .pointer (some ⟨b, 0, none⟩) := hA.of 15 (d := 55) (by simp) rfl rfl
    simp only [execOp, Og.ev, e55]
    go_simp
  · refine Og.ok_val _ rfl rfl fun φ w2 hA => ?_
    have e56 : φ 56 = .pointer (some ⟨b, 0, none⟩) := hA.of 16 (d := 56) (by simp) rfl rfl
    simp only [execOp, Og.ev, e56]
    go_simp
  · refine Og.ok_val _ rfl rfl fun φ w2 hA => ?_
    have e57 : φ 57 = .pointer (some ⟨b, 6, none⟩) := hA.of 17 (d := 57) (by simp) rfl rfl
    simp only [execOp, Og.ev, e57]
    go_simp
  · refine Og.ok_val _ rfl rfl fun φ w2 hA => ?_
    have e58 : φ 58 = .pointer (some ⟨b, 9, none⟩) := hA.of 18 (d := 58) (by simp) rfl rfl
    have hc := hA.keep.1.c9
    simp only [execOp, Og.ev, e58]
    go_simp
  · refine Og.ok_wval _ rfl fun φ w2 hA => ?_
    have e44 : φ 44 = .int .u64 p.g1 := hA.of 4 (d := 44) (by simp) rfl rfl
    have e49 : φ 49 = .int .u64 p.g2 := hA.of 9 (d := 49) (by simp) rfl rfl
    have e54 : φ 54 = .int .u64 p.g3 := hA.of 14 (d := 54) (by simp) rfl rfl
    have e59 : φ 59 = .int .u64 p.g4 := hA.of 19 (d := 59) (by simp) rfl rfl
    obtain ⟨hpk, hob, haf⟩ := hA.keep
    have hb := below_alloc1 w2 (.cells #[.int .u64 p.g1, .int .u64 p.g2, .int .u64 p.g3, .int .u64 p.g4] 28)
    refine ⟨.slice (some ⟨w2.heap.size, 0, none⟩) 4 4, w2.alloc (.cells #[.int .u64 p.g1, .int .u64 p.g2, .int .u64 p.g3, .int .u64 p.g4] 28), ?_, ⟨hpk.below hb, hob.below hb, haf.trans (After.below v hb)⟩, ⟨w2.heap.size, rfl, heap_new _ _ _ rfl, haf.grown.size⟩, fun j hj hT => hT, fun x hx hn u hu => ?_⟩
    · simp only [execOp, Og.ev, e44, e49, e54, e59]
      go_simp
    · simp only [List.mem_cons, List.not_mem_nil, or_false] at hx
      subst hx
      exact absurd hn (Bool.eq_false_iff.1 (by kernel_rfl))
  · refine Og.ok_val _ rfl rfl fun φ w2 hA => ?_
    have v60 := hA.of 20 (d := 60) (by simp) rfl rfl
    obtain ⟨g, e60, -, -⟩ := v60
    simp only [execOp, Og.ev]
    go_simp
    simp only [Og.ev, e60]
    go_simp
  · refine Og.ok_val _ rfl rfl fun φ w2 hA => ?_
    simp only [execOp, Og.ev]
    go_simp
  · rename_i hnext
    intro φ a w2 hF hR h0 hV _
    obtain ⟨g, e60, hg, hgs⟩ := hV 20 _ 60 rfl rfl rfl
    have e61 : φ 61 = .int .i64 4 := hV 21 _ 61 rfl rfl rfl
    have e62 : φ 62 = .int .i64 0 := hV 22 _ 62 rfl rfl rfl
    have e0 : φ 0 = v := h0 0 (by kernel_rfl)
    have e1 : φ 1 = fv := h0 1 (by kernel_rfl)
    have e2 : φ 2 = .pointer (some ⟨b, 0, none⟩) := h0 2 (by kernel_rfl)
    have ea : ∃ U : Nat → Value, a = ⟨#[v, fv, .pointer (some ⟨b, 0, none⟩), U 3, U 4, U 5, U 6, U 7, U 8, U 9, U 10, U 11, U 12, U 13, U 14, U 15, U 16, U 17, U 18, U 19, U 20, U 21, U 22, U 23, U 24, U 25, U 26, U 27, U 28, U 29, U 30, U 31, U 32, U 33, U 34, U 35, U 36, U 37, U 38, U 39, U 40, U 41, U 42, U 43, U 44, U 45, U 46, U 47, U 48, U 49, U 50, U 51, U 52, U 53, U 54, U 55, U 56, U 57, U 58, U 59, .slice (some ⟨g, 0, none⟩) 4 4, .int .i64 4, .int .i64 0, U 63, U 64, U 65, U 66, U 67, U 68, U 69, U 70, U 71, U 72, U 73, U 74, U 75, U 76, U 77, U 78, U 79, U 80, U 81, U 82, U 83, U 84, U 85, U 86, U 87, U 88, U 89, U 90, U 91, U 92, U 93, U 94, U 95, U 96, U 97, U 98, U 99, U 100, U 101, U 102, U 103, U 104, U 105, U 106, U 107, U 108, U 109, U 110, U 111, U 112, U 113, U 114, U 115, U 116], []⟩ := ⟨φ, by
      rw [hF.lit_eq, show ((List.range 117).map φ).toArray = #[φ 0, φ 1, φ 2, φ 3, φ 4, φ 5, φ 6, φ 7, φ 8, φ 9, φ 10, φ 11, φ 12, φ 13, φ 14, φ 15, φ 16, φ 17, φ 18, φ 19, φ 20, φ 21, φ 22, φ 23, φ 24, φ 25, φ 26, φ 27, φ 28, φ 29, φ 30, φ 31, φ 32, φ 33, φ 34, φ 35, φ 36, φ 37, φ 38, φ 39, φ 40, φ 41, φ 42, φ 43, φ 44, φ 45, φ 46, φ 47, φ 48, φ 49, φ 50, φ 51, φ 52, φ 53, φ 54, φ 55, φ 56, φ 57, φ 58, φ 59, φ 60, φ 61, φ 62, φ 63, φ 64, φ 65, φ 66, φ 67, φ 68, φ 69, φ 70, φ 71, φ 72, φ 73, φ 74, φ 75, φ 76, φ 77, φ 78, φ 79, φ 80, φ 81, φ 82, φ 83, φ 84, φ 85, φ 86, φ 87, φ 88, φ 89, φ 90, φ 91, φ 92, φ 93, φ 94, φ 95, φ 96, φ 97, φ 98, φ 99, φ 100, φ 101, φ 102, φ 103, φ 104, φ 105, φ 106, φ 107, φ 108, φ 109, φ 110, φ 111, φ 112, φ 113, φ 114, φ 115, φ 116] by kernel_rfl, e0, e1, e2, e60, e61, e62]⟩
    obtain ⟨hpk, hob, haf⟩ := hR
    clear hF h0 hV e60 e61 e62 e0 e1 e2
    have hfs : ∀ q ∈ [p.g1, p.g2, p.g3, p.g4], q < 18446744073709551616 := by
      intro q hq
      simp only [List.mem_cons, List.not_mem_nil, or_false] at hq
      rcases hq with rfl | rfl | rfl | rfl
      · exact hp.g1
      · exact hp.g2
      · exact hp.g3
      · exact hp.g4
    have hcs : ∀ (i q : Nat), [p.g1, p.g2, p.g3, p.g4][i]? = some q → (#[Value.int .u64 p.g1, .int .u64 p.g2, .int .u64 p.g3, .int .u64 p.g4] : Array Value)[i]? = some (.int .u64 q) := by
      intro i q h
      match i, h with
      | 0, h => cases h; rfl
      | 1, h => cases h; rfl
      | 2, h => cases h; rfl
      | 3, h => cases h; rfl
    have hF : ([p.g1, p.g2, p.g3, p.g4] : List Nat).length = 4 := rfl
    have HF : Hid (Wi.wrF p .gens = [p.g1, p.g2, p.g3, p.g4].flatMap (Wi.be 8)) := by
      show _ = _
      simp [Wi.wrF]
    generalize [p.g1, p.g2, p.g3, p.g4] = gs at *
    generalize (#[Value.int .u64 p.g1, .int .u64 p.g2, .int .u64 p.g3, .int .u64 p.g4] : Array Value) = cs at *
    have hne0 : v.ownBlock ≠ some g := fun e => by have := (h.lt _ e).2; omega
    obtain ⟨U, rfl⟩ := ea
    refine hnext _ _ ?_
    clear hnext
    go_wp2_with fail
    refine wp_loop_count (GensI fv v w B b g l gs cs) 4 ⟨v, ⟨U, rfl⟩, by simpa using hob, haf, hg, hne0⟩ ?_ ?_
    · rintro i a w' hi ⟨v', ⟨U, rfl⟩, ho, ha, hb4, hne⟩
      obtain ⟨q, hq⟩ : ∃ q, gs[i]? = some q := ⟨gs[i], List.getElem?_eq_getElem (by omega)⟩
      have hq64 := hfs q (List.mem_of_getElem? hq)
      have hcell : w'.cell? ⟨g, i, none⟩ = some (.int .u64 q) := (has_cell hb4 i).trans (hcs i q hq)
      have hi' : (i : Int) < 4 := by exact_mod_cast hi
      have hi0 : (0 : Int) ≤ (i : Int) := Int.natCast_nonneg i
      have Hn := Lib.hid (Wi.take_next hq)
      have hfl : ((gs.take i).flatMap (Wi.be 8)).length ≤ 24 := by
        rw [Wi.flat_length, List.length_take]; omega
      have hBs : B ≤ w'.heap.size := Nat.le_trans hB ha.grown.size
      clear hfs hcs hq
      go_wp2_with fail
      refine (put_calls 8 q ho hBs (by decide) hq64 (by rw [List.length_append]; omega)).mono ?_
      rintro e w6 ⟨v6, rfl, ho6, ha6⟩
      go_wp2_with fail
      refine ⟨v6, exU (fun U => ⟨#[v6, fv, .pointer (some ⟨b, 0, none⟩), U 3, U 4, U 5, U 6, U 7, U 8, U 9, U 10, U 11, U 12, U 13, U 14, U 15, U 16, U 17, U 18, U 19, U 20, U 21, U 22, U 23, U 24, U 25, U 26, U 27, U 28, U 29, U 30, U 31, U 32, U 33, U 34, U 35, U 36, U 37, U 38, U 39, U 40, U 41, U 42, U 43, U 44, U 45, U 46, U 47, U 48, U 49, U 50, U 51, U 52, U 53, U 54, U 55, U 56, U 57, U 58, U 59, .slice (some ⟨g, 0, none⟩) 4 4, .int .i64 4, .int .i64 (i + 1 : Nat), U 63, U 64, U 65, U 66, U 67, U 68, U 69, U 70, U 71, U 72, U 73, U 74, U 75, U 76, U 77, U 78, U 79, U 80, U 81, U 82, U 83, U 84, U 85, U 86, U 87, U 88, U 89, U 90, U 91, U 92, U 93, U 94, U 95, U 96, U 97, U 98, U 99, U 100, U 101, U 102, U 103, U 104, U 105, U 106, U 107, U 108, U 109, U 110, U 111, U 112, U 113, U 114, U 115, U 116], []⟩) rfl, ?_, ha.trans ha6, ?_, ?_⟩
      · rw [Hn.out, List.flatMap_append, ← List.append_assoc]
        simpa using ho6
      · exact (ha6.grown.block _ (heap_lt hb4) (fun e => hne e.symm)).trans hb4
      · rcases ha6.at_ with e | ⟨g', e, hg'⟩
        · rw [e]; exact hne
        · rw [e]; intro e'; injection e' with e'; have := heap_lt hb4; omega
    · rintro a w' ⟨v', ⟨U, rfl⟩, ho, ha, hb4, hne⟩
      rw [List.take_of_length_le (by omega), ← HF.out] at ho
      clear hfs hcs hg hb4 hne
      go_wp2_with fail
      go_ret2
      exact ⟨v', rfl, ho, ha⟩
end Go.Proofs.YtbgfoobcpacfeaaDoor

/- write of the data. (Printed by wip/w7gen/mkwrite3.py.) -/
namespace Go.Proofs.YtbgfoobcpacfeaaDoor
open Go.RowKit
set_option maxRecDepth 100000
set_option linter.unusedVariables false
set_option linter.unusedSimpArgs false

/-- The block of a row holds such cells. -/
theorem _root_.Go.World.ownsRow.cellTy {w : World} {B : Nat} {e : TypeId} {size : Nat} {v : Value} {n : Nat} {xs : List Value} (h : w.ownsRow B e size v n xs) {g : Nat} (hg : v.ownBlock = some g) : ∃ cs fz, w.heap[g]? = some (.cells cs e fz) := by
  obtain ⟨-, ⟨rfl, -⟩ | ⟨g2, cap, cur, rfl, -, hk, -⟩⟩ := h
  · cases hg
  · cases hg; exact ⟨_, _, hk⟩

set_option maxHeartbeats 8000000 in
theorem write_dat {w : World} {B b : Nat} {v pv : Value} {l : List UInt8} {p : Wi.Pk} (f : FuncId) (hf : f ∈ Wi.mays) (h : OB B w v l) (hB : B ≤ w.heap.size) (hP : PkAt w b p pv) (hp : p.Ok) (hbB : b < B) (hS : Szs w) (h3 : 3 < B) (hr : RB w pv p.data) (hpB : p.data ≠ [] → ∀ g, pv.ownBlock = some g → g < B)
    (hl : l.length + 2 + p.data.length ≤ 140737488355328) :
    Calls Tryd.prog 41 #[v, fdV (.dat f), .pointer (some ⟨b, 0, none⟩)] w fun e w' => ∃ v', e = .returned (.tuple #[v', .bool (Wi.okF p (.dat f))]) ∧ OB B w' v' (l ++ Wi.wrF p (.dat f)) ∧ After w w' v v' := by
  have ta1 := fun w => ta_dat_n w f
  have ta2 := fun w => ta_dat_g w f
  have ta3 := fun w => ta_dat_s w f
  have ta4 := fun w => ta_dat w f
  generalize hfv : fdV (.dat f) = fv at *
  clear hfv
  generalize zv 107 = z1 at *
  generalize zv 117 = z2 at *
  generalize zv 113 = z3 at *
  have hb1 := below_alloc1 w (.cells #[fnV f] 115)
  have hc42 := (hP.below hb1).cd hp
  have hln : ∀ w, (Builtin.len_ #[32] 3 #[pv]).run Tryd.prog w = .ok (.int .i64 p.data.length) w := by
    obtain ⟨pp, pc, e⟩ := hr.form
    intro w
    rw [e]
    simp [Builtin.len_, run_underlying by_tu, goInt, Builtin.lenOf]
  have hlen := hr.len
  have hlw : IntKind.u64.wrap ((p.data.length : Nat) : Int) = ((p.data.length : Nat) : Int) := by simp only [IntKind.wrap, IntKind.bits, IntKind.signed]; simp; omega
  go_enter Tryd.func41, Tryd.ntmps41
  go_wp2_with fail
  clear hc42 hlw hln
  have hbx := heap_new w (.cells #[fnV f] 115) w.heap.size rfl
  refine Og.wp_region_og _ (fun j => j == 15 || j == 16)
    (Og.Vt [v, .int .u64 p.data.length, undef, .pointer (some ⟨b, 0, none⟩), .pointer (some ⟨b, 0, none⟩), .pointer (some ⟨b, 42, none⟩), pv, undef, .pointer (some ⟨w.heap.size, 0, none⟩), fnV f, .pointer (some ⟨b, 0, none⟩), undef, .int .u64 p.data.length, .int .u64 p.data.length, .bool (Wi.okF p (.dat f)), undef, .bool (Wi.okF p (.dat f))] [(2, fun u w' => OB B w' u (l ++ Wi.be 2 p.data.length) ∧ After w w' v u), (7, fun u w' => OB B w' u (l ++ (Wi.be 2 p.data.length ++ p.data)) ∧ After w w' v u), (11, fun u w' => Spans w' u (Wi.spansOf f p)), (15, fun u w' => OB B w' u (l ++ (Wi.be 2 p.data.length ++ p.data)) ∧ After w w' v u)])
    (fun w' => w'.heap[w.heap.size]? = some (.cells #[fnV f] 115 (0, 0)) ∧ PkAt w' b p pv ∧ Szs w' ∧ RB w' pv p.data)
    (fun j w' => j = 2 → OB B w' v l ∧ After w w' v v) 117 rfl (by kernel_rfl) (by kernel_rfl) ⟨hbx, (hP.below hb1).below (Below.drew (Below.refl _ _)), (hS.below hb1).below (Below.drew (Below.refl _ _)), (hr.below hb1).below (Below.drew (Below.refl _ _))⟩ (fun _ _ _ => ⟨(h.below hb1).below (Below.drew (Below.refl _ _)), (After.alloc w v _).trans (After.below v (Below.drew (Below.refl _ _)))⟩) (Og.allOps ⟨?_, ?_, ?_, ?_, ?_, ?_, ?_, ?_, ?_, ?_, ?_, ?_, ?_, ?_, ?_, ?_, ?_, trivial⟩) ?_
  · refine Og.ok_val _ rfl rfl fun φ w2 hA => ?_
    have e0 : φ 0 = v := hA.old 0 (by kernel_rfl)
    simp only [execOp, Og.ev, e0]
    go_simp
  · refine Og.ok_val _ rfl rfl fun φ w2 hA => ?_
    have e15 : φ 15 = .int .u64 p.data.length := hA.old 15 (by kernel_rfl)
    simp only [execOp, Og.ev, e15]
    go_simp
  · refine Og.ok_wcall_fn _ _ _ _ rfl rfl fun φ w2 hA => ?_
    have e0 : φ 101 = v := hA.of 0 (d := 101) (by simp) rfl rfl
    have e1 : φ 102 = .int .u64 p.data.length := hA.of 1 (d := 102) (by simp) rfl rfl
    obtain ⟨hbk, hpk, hsk, hrk⟩ := hA.keep
    obtain ⟨hob, haf⟩ := hA.tok rfl
    have hBs : B ≤ w2.heap.size := Nat.le_trans hB haf.grown.size
    refine ⟨_, #[v, .int .i64 2, .int .u64 p.data.length], put_enter, rfl, by simp [Og.ev, e0, e1], (put_calls 2 p.data.length hob hBs (by decide) (by omega) (by omega)).mono ?_⟩
    rintro e w3 ⟨u, rfl, hu, hau⟩
    have hnv : v.ownBlock ≠ some w.heap.size := fun e => by have := (h.lt _ e).2; omega
    refine ⟨u, rfl, ⟨blk_grown hbk hau.grown hnv, hpk.grown hau.grown (hob.ne hbB), hsk.grown hau.grown (hob.ne h3), hrk.grown hau.grown (fun hl g e => hob.ne (hpB hl g e))⟩, ⟨hu, haf.trans hau⟩, fun j hj hT hj2 => absurd (hj2 ▸ hj) (Bool.eq_false_iff.1 (by kernel_rfl)), fun x hx hn u' hu' => ?_⟩
    simp only [List.mem_cons, List.not_mem_nil, or_false] at hx
    rcases hx with rfl | rfl | rfl | rfl
    · exact absurd hn (Bool.eq_false_iff.1 (by kernel_rfl))
    · exact absurd hn (Bool.eq_false_iff.1 (by kernel_rfl))
    · exact hu'.grown hau.grown (hu'.off hob)
    · exact absurd hn (Bool.eq_false_iff.1 (by kernel_rfl))
  · refine Og.ok_val _ rfl rfl fun φ w2 hA => ?_
    have e2 : φ 2 = .pointer (some ⟨b, 0, none⟩) := hA.old 2 (by kernel_rfl)
    simp only [execOp, Og.ev, e2]
    go_simp
  · refine Og.ok_val _ rfl rfl fun φ w2 hA => ?_
    have e104 : φ 104 = .pointer (some ⟨b, 0, none⟩) := hA.of 3 (d := 104) (by simp) rfl rfl
    simp only [execOp, Og.ev, e104]
    go_simp
  · refine Og.ok_val _ rfl rfl fun φ w2 hA => ?_
    have e105 : φ 105 = .pointer (some ⟨b, 0, none⟩) := hA.of 4 (d := 105) (by simp) rfl rfl
    simp only [execOp, Og.ev, e105]
    go_simp
  · refine Og.ok_val _ rfl rfl fun φ w2 hA => ?_
    have e106 : φ 106 = .pointer (some ⟨b, 42, none⟩) := hA.of 5 (d := 106) (by simp) rfl rfl
    have hc := hA.keep.2.1.cd hp
    simp only [execOp, Og.ev, e106]
    go_simp
  · refine Og.ok_wval _ rfl fun φ w2 hA => ?_
    obtain ⟨hob, haf⟩ := hA.of 2 (d := 103) (by simp) rfl rfl
    have e1 : φ 107 = pv := hA.of 6 (d := 107) (by simp) rfl rfl
    obtain ⟨hbk, hpk, hsk, hrk⟩ := hA.keep
    have hBs : B ≤ w2.heap.size := Nat.le_trans hB haf.grown.size
    obtain ⟨u, w3, hrun, hu, hg, hat⟩ := run_append_OB hob hrk (by rw [List.length_append, Wi.be_length]; omega) hBs
    have hau : After w2 w3 (φ 103) u := After.of hg hat
    have hnv : (φ 103).ownBlock ≠ some w.heap.size := fun e => by
      rcases haf.at_ with e2 | ⟨g, e2, hg2⟩
      · rw [e2] at e; have := (h.lt _ e).2; omega
      · obtain ⟨cs3, fz3, e3⟩ := hob.1.cellTy e
        rw [hbk] at e3
        injection e3 with e3
        injection e3 with _ e4
        exact absurd e4 (by decide)
    refine ⟨u, w3, ?_, ⟨blk_grown hbk hg hnv, hpk.grown hg (hob.ne hbB), hsk.grown hg (hob.ne h3), hrk.grown hg (fun hl g e => hob.ne (hpB hl g e))⟩, ⟨by rw [← List.append_assoc]; exact hu, haf.trans hau⟩, fun j hj hT hj2 => absurd (hj2 ▸ hj) (Bool.eq_false_iff.1 (by kernel_rfl)), fun x hx hn u' hu' => ?_⟩
    · exact Og.exec_append rfl (by simp only [Og.ev]; rw [e1]; exact hrun)
    · simp only [List.mem_cons, List.not_mem_nil, or_false] at hx
      rcases hx with rfl | rfl | rfl | rfl
      · exact absurd hn (Bool.eq_false_iff.1 (by kernel_rfl))
      · exact absurd hn (Bool.eq_false_iff.1 (by kernel_rfl))
      · exact hu'.grown hg (hu'.off hob)
      · exact absurd hn (Bool.eq_false_iff.1 (by kernel_rfl))
  · refine Og.ok_val _ rfl rfl fun φ w2 hA => ?_
    have e14 : φ 14 = .pointer (some ⟨w.heap.size, 0, none⟩) := hA.old 14 (by kernel_rfl)
    simp only [execOp, Og.ev, e14]
    go_simp
  · refine Og.ok_val _ rfl rfl fun φ w2 hA => ?_
    have e109 : φ 109 = .pointer (some ⟨w.heap.size, 0, none⟩) := hA.of 8 (d := 109) (by simp) rfl rfl
    have hc := has_cell hA.keep.1 0
    simp only [execOp, Og.ev, e109]
    go_simp
  · refine Og.ok_val _ rfl rfl fun φ w2 hA => ?_
    have e2 : φ 2 = .pointer (some ⟨b, 0, none⟩) := hA.old 2 (by kernel_rfl)
    simp only [execOp, Og.ev, e2]
    go_simp
  · refine Og.ok_gcall_fn _ _ _ _ ?_ ?_ ?_ rfl rfl fun φ w2 hA => ?_
    · intro x hx u w3 w4 hu hb
      simp only [List.mem_cons, List.not_mem_nil, or_false] at hx
      rcases hx with rfl | rfl | rfl | rfl
      · exact ⟨hu.1.below hb, hu.2.trans (After.below u hb)⟩
      · exact ⟨hu.1.below hb, hu.2.trans (After.below u hb)⟩
      · exact hu.below hb
      · exact ⟨hu.1.below hb, hu.2.trans (After.below u hb)⟩
    · exact fun w3 w4 hR hb => ⟨blk_below hR.1 hb, hR.2.1.below hb, hR.2.2.1.below hb, hR.2.2.2.below hb⟩
    · exact fun j w3 w4 hT hb hj => ⟨(hT hj).1.below hb, (hT hj).2.trans (After.below v hb)⟩
    · have e0 : φ 110 = fnV f := hA.of 9 (d := 110) (by simp) rfl rfl
      have e1 : φ 111 = .pointer (some ⟨b, 0, none⟩) := hA.of 10 (d := 111) (by simp) rfl rfl
      obtain ⟨hbk, hpk, hsk, hrk⟩ := hA.keep
      refine ⟨f, #[.pointer (some ⟨b, 0, none⟩)], mays_enter f hf, e0, by simp [Og.ev, e1], (may_calls f hf hpk hp hsk).mono ?_⟩
      rintro e w3 ⟨u, rfl, hu, hg, hb⟩
      exact ⟨u, rfl, hu, hb⟩
  · refine Og.ok_val _ rfl rfl fun φ w2 hA => ?_
    have e15 : φ 15 = .int .u64 p.data.length := hA.old 15 (by kernel_rfl)
    simp only [execOp, Og.ev, e15]
    go_simp
  · refine Og.ok_val _ rfl rfl fun φ w2 hA => ?_
    have e15 : φ 15 = .int .u64 p.data.length := hA.old 15 (by kernel_rfl)
    simp only [execOp, Og.ev, e15]
    go_simp
  · refine Og.ok_call_fn _ _ _ _ ?_ ?_ ?_ rfl rfl rfl fun φ w2 hA => ?_
    · intro x hx u w3 w4 hu hb
      simp only [List.mem_cons, List.not_mem_nil, or_false] at hx
      rcases hx with rfl | rfl | rfl | rfl
      · exact ⟨hu.1.below hb, hu.2.trans (After.below u hb)⟩
      · exact ⟨hu.1.below hb, hu.2.trans (After.below u hb)⟩
      · exact hu.below hb
      · exact ⟨hu.1.below hb, hu.2.trans (After.below u hb)⟩
    · exact fun w3 w4 hR hb => ⟨blk_below hR.1 hb, hR.2.1.below hb, hR.2.2.1.below hb, hR.2.2.2.below hb⟩
    · exact fun j w3 w4 hT hb hj => ⟨(hT hj).1.below hb, (hT hj).2.trans (After.below v hb)⟩
    · have e0 := hA.of 11 (d := 112) (by simp) rfl rfl
      have e1 : φ 113 = .int .u64 p.data.length := hA.of 12 (d := 113) (by simp) rfl rfl
      have e2 : φ 114 = .int .u64 p.data.length := hA.of 13 (d := 114) (by simp) rfl rfl
      exact ⟨_, #[φ 112, .int .u64 p.data.length, .int .u64 p.data.length], meet_enter, rfl, by simp [Og.ev, e1, e2], (meet_calls e0 p.data.length p.data.length (by omega) (by omega)).out⟩
  · exact Og.ok_wpass _ 108 rfl (.inr rfl) fun φ w2 hA => hA.of 7 (d := 108) (by simp) rfl rfl
  · refine Og.ok_val _ rfl rfl fun φ w2 hA => ?_
    have e115 : φ 115 = .bool (Wi.okF p (.dat f)) := hA.of 14 (d := 115) (by simp) rfl rfl
    simp only [execOp, Og.ev, e115]
    go_simp
  · rename_i hnext
    intro φ a w2 hF hR h0 hV _
    obtain ⟨hv1, hv2⟩ := hV 15 _ 6 rfl rfl rfl
    have hv3 : φ 7 = .bool (Wi.okF p (.dat f)) := hV 16 _ 7 rfl rfl rfl
    refine hnext a w2 (wp_ret ?_)
    simp only [Exit.inBlock, Exit.then]
    refine bodyPost_ret (v := .tuple #[φ 6, .bool (Wi.okF p (.dat f))]) ?_ hF.1 ?_
    · rw [← hv3, ← hF.2.2 6, ← hF.2.2 7]
      exact results_tmp2 rfl _ _ _
    · exact ⟨φ 6, rfl, hv1, hv2⟩
end Go.Proofs.YtbgfoobcpacfeaaDoor

/- write of the digest. (Printed by wip/w7gen/mkwrite4.py.) -/
namespace Go.Proofs.YtbgfoobcpacfeaaDoor
open Go.RowKit
set_option maxRecDepth 100000
set_option linter.unusedVariables false
set_option linter.unusedSimpArgs false

theorem sm_t : Tryd.prog.underlying 31 = some (.array 32 5) := by kernel_rfl
theorem sm_u8 : Tryd.prog.underlying 5 = some (.int .u8) := by kernel_rfl
theorem sm_i : (Tryd.prog.info? 31).map (·.size) = some 32 := by kernel_rfl
theorem sm_sz (w : World) : (sizeOf 5).run Tryd.prog w = .ok 1 w := by kernel_rfl
/-- The digest in memory. -/
theorem PkAt.range {w : World} {b : Nat} {p : Wi.Pk} {v : Value} (h : PkAt w b p v) : w.rangeAt b 10 (p.sum.map bv) := fun j u hu => by
  rw [List.getElem?_map] at hu
  cases e : p.sum[j]? with
  | none => rw [e] at hu; cases hu
  | some x => rw [e] at hu; cases hu; exact h.cs j x e
theorem PkAt.rbSum {w : World} {b : Nat} {p : Wi.Pk} {v : Value} (h : PkAt w b p v) (hp : p.Ok) : RB w (.slice (some ⟨b, 10, none⟩) 32 32) p.sum :=
  ⟨_, 32, by rw [hp.sum], by rw [hp.sum]; exact Nat.le_refl _, by decide, by rw [hp.sum]; decide, fun i x hx => ⟨b, 10, rfl, h.lt, h.cs i x hx⟩⟩
theorem load_sum {w : World} {b : Nat} {p : Wi.Pk} {v : Value} (h : PkAt w b p v) (hp : p.Ok) : (Instr.loadAt 31 (.pointer (some ⟨b, 10, none⟩))).run Tryd.prog w = .ok (.agg (p.sum.map bv).toArray) w :=
  run_loadAt_mid w b 10 _ _ _ h.range sm_t rfl (by rw [sm_i, List.length_map, hp.sum])
theorem eql_sum (w : World) (p : Wi.Pk) (hp : p.Ok) : (binOp .eql 31 (.agg (p.sum.map bv).toArray) (.agg (Wi.zeros.map bv).toArray)).run Tryd.prog w = .ok (.bool (decide (p.sum = Wi.zeros))) w :=
  (run_eql_bytes w _ _ 32 sm_t sm_u8 sm_sz p.sum Wi.zeros hp.sum rfl).trans (by rw [Bool.beq_eq_decide_eq])
theorem exec_eql {P : Program} {ρ : Operand → Value} {o : Oper} {x y : Operand} {t t2 : TypeId} {xs ys : Array Value} {w : World} {v : Value} (ho : o.op = .binOp .eql t x y t2) (hx : ρ x = .agg xs) (hy : ρ y = .agg ys) (hm : P.eqGuardType P.depth t = false) (h : (binOp .eql t (.agg xs) (.agg ys)).run P w = .ok v w) : (execOp ρ o).run P w = .ok (.value v) w := by
  unfold execOp
  rw [ho]
  simp only [hx, hy]
  simp [run_eqGuard_agg w .eql t x y xs ys hm, h]

set_option maxHeartbeats 8000000 in
theorem write_sum_false {w : World} {B b : Nat} {v pv : Value} {l : List UInt8} {p : Wi.Pk} (f : FuncId) (hf : f = 63 ∨ f = 78) (hzf : Wi.zeroOf f p = false) (h : OB B w v l) (hB : B ≤ w.heap.size) (hP : PkAt w b p pv) (hp : p.Ok) (hbB : b < B) (hl : l.length + 32 ≤ 140737488355328) :
    Calls Tryd.prog 41 #[v, fdV (.sum f), .pointer (some ⟨b, 0, none⟩)] w fun e w' => ∃ v', e = .returned (.tuple #[v', .bool (Wi.okF p (.sum f))]) ∧ OB B w' v' (l ++ Wi.wrF p (.sum f)) ∧ After w w' v v' := by
  have hok : Wi.okF p (.sum f) = true := by simp [Wi.okF, hzf]
  have hent : Og.Enters Tryd.prog f := by
    rcases hf with rfl | rfl
    all_goals (intro args w; kernel_rfl)
  have ta1 := fun w => ta_sum_n w f
  have ta2 := fun w => ta_sum_g w f
  have ta3 := fun w => ta_sum w f
  generalize hfv : fdV (.sum f) = fv at *
  clear hfv
  generalize zv 107 = z1 at *
  generalize zv 117 = z2 at *
  have hb1 := below_alloc1 w (.cells #[fnV f] 113)
  go_enter Tryd.func41, Tryd.ntmps41
  go_wp2_with fail
  have hbx := heap_new w (.cells #[fnV f] 113) w.heap.size rfl
  refine Og.wp_region_og _ (fun j => j == 19 || j == 20)
    (Og.Vt [v, .pointer (some ⟨b, 0, none⟩), .pointer (some ⟨b, 0, none⟩), .pointer (some ⟨b, 10, none⟩), .slice (some ⟨b, 10, none⟩) 32 32, undef, .pointer (some ⟨w.heap.size, 0, none⟩), fnV f, .pointer (some ⟨b, 0, none⟩), .bool false, .bool true, .bool true, undef, undef, undef, undef, undef, undef, .bool (Wi.okF p (.sum f)), undef, .bool (Wi.okF p (.sum f))] [(5, fun u w' => OB B w' u (l ++ p.sum) ∧ After w w' v u), (19, fun u w' => OB B w' u (l ++ p.sum) ∧ After w w' v u)])
    (fun w' => w'.heap[w.heap.size]? = some (.cells #[fnV f] 113 (0, 0)) ∧ PkAt w' b p pv)
    (fun j w' => j = 5 → OB B w' v l ∧ After w w' v v) 117 rfl (by kernel_rfl) (by kernel_rfl) ⟨hbx, (hP.below hb1).below (Below.drew (Below.refl _ _))⟩ (fun _ _ _ => ⟨(h.below hb1).below (Below.drew (Below.refl _ _)), (After.alloc w v _).trans (After.below v (Below.drew (Below.refl _ _)))⟩) (Og.allOps ⟨?_, ?_, ?_, ?_, ?_, ?_, ?_, ?_, ?_, ?_, ?_, ?_, ?_, ?_, ?_, ?_, ?_, ?_, ?_, ?_, ?_, trivial⟩) ?_
  · refine Og.ok_val _ rfl rfl fun φ w2 hA => ?_
    have e0 : φ 0 = v := hA.old 0 (by kernel_rfl)
    simp only [execOp, Og.ev, e0]
    go_simp
  · refine Og.ok_val _ rfl rfl fun φ w2 hA => ?_
    have e2 : φ 2 = .pointer (some ⟨b, 0, none⟩) := hA.old 2 (by kernel_rfl)
    simp only [execOp, Og.ev, e2]
    go_simp
  · refine Og.ok_val _ rfl rfl fun φ w2 hA => ?_
    have e74 : φ 74 = .pointer (some ⟨b, 0, none⟩) := hA.of 1 (d := 74) (by simp) rfl rfl
    simp only [execOp, Og.ev, e74]
    go_simp
  · refine Og.ok_val _ rfl rfl fun φ w2 hA => ?_
    have e75 : φ 75 = .pointer (some ⟨b, 0, none⟩) := hA.of 2 (d := 75) (by simp) rfl rfl
    simp only [execOp, Og.ev, e75]
    go_simp
  · refine Og.ok_val _ rfl rfl fun φ w2 hA => ?_
    have e76 : φ 76 = .pointer (some ⟨b, 10, none⟩) := hA.of 3 (d := 76) (by simp) rfl rfl
    simp only [execOp, Og.ev, e76]
    go_simp
  · refine Og.ok_wval _ rfl fun φ w2 hA => ?_
    have e0 : φ 73 = v := hA.of 0 (d := 73) (by simp) rfl rfl
    have e1 : φ 77 = .slice (some ⟨b, 10, none⟩) 32 32 := hA.of 4 (d := 77) (by simp) rfl rfl
    obtain ⟨hbk, hpk⟩ := hA.keep
    obtain ⟨hob, haf⟩ := hA.tok rfl
    have hBs : B ≤ w2.heap.size := Nat.le_trans hB haf.grown.size
    obtain ⟨u, w3, hrun, hu, hg, hat⟩ := run_append_OB hob (hpk.rbSum hp) (by rw [hp.sum]; omega) hBs
    have hau : After w2 w3 v u := After.of hg hat
    have hnv : v.ownBlock ≠ some w.heap.size := fun e => by have := (h.lt _ e).2; omega
    refine ⟨u, w3, Og.exec_append rfl (by simp only [Og.ev]; rw [e0, e1]; exact hrun), ⟨blk_grown hbk hg hnv, hpk.grown hg (hob.ne hbB)⟩, ⟨hu, haf.trans hau⟩, fun j hj hT hj2 => absurd (hj2 ▸ hj) (Bool.eq_false_iff.1 (by kernel_rfl)), fun x hx hn u' hu' => ?_⟩
    simp only [List.mem_cons, List.not_mem_nil, or_false] at hx
    rcases hx with rfl | rfl
    · exact absurd hn (Bool.eq_false_iff.1 (by kernel_rfl))
    · exact absurd hn (Bool.eq_false_iff.1 (by kernel_rfl))
  · refine Og.ok_val _ rfl rfl fun φ w2 hA => ?_
    have e13 : φ 13 = .pointer (some ⟨w.heap.size, 0, none⟩) := hA.old 13 (by kernel_rfl)
    simp only [execOp, Og.ev, e13]
    go_simp
  · refine Og.ok_val _ rfl rfl fun φ w2 hA => ?_
    have e79 : φ 79 = .pointer (some ⟨w.heap.size, 0, none⟩) := hA.of 6 (d := 79) (by simp) rfl rfl
    have hc := has_cell hA.keep.1 0
    simp only [execOp, Og.ev, e79]
    go_simp
  · refine Og.ok_val _ rfl rfl fun φ w2 hA => ?_
    have e2 : φ 2 = .pointer (some ⟨b, 0, none⟩) := hA.old 2 (by kernel_rfl)
    simp only [execOp, Og.ev, e2]
    go_simp
  · refine Og.ok_call_fn _ _ _ _ ?_ ?_ ?_ rfl rfl rfl fun φ w2 hA => ?_
    · intro x hx u w3 w4 hu hb
      simp only [List.mem_cons, List.not_mem_nil, or_false] at hx
      rcases hx with rfl | rfl
      · exact ⟨hu.1.below hb, hu.2.trans (After.below u hb)⟩
      · exact ⟨hu.1.below hb, hu.2.trans (After.below u hb)⟩
    · exact fun w3 w4 hR hb => ⟨blk_below hR.1 hb, hR.2.below hb⟩
    · exact fun j w3 w4 hT hb hj => ⟨(hT hj).1.below hb, (hT hj).2.trans (After.below v hb)⟩
    · have e0 : φ 80 = fnV f := hA.of 7 (d := 80) (by simp) rfl rfl
      have e1 : φ 81 = .pointer (some ⟨b, 0, none⟩) := hA.of 8 (d := 81) (by simp) rfl rfl
      have hz := zero_calls hf hA.keep.2
      rw [hzf] at hz
      exact ⟨f, #[.pointer (some ⟨b, 0, none⟩)], hent, e0, by simp [Og.ev, e1], hz.out⟩
  · refine Og.ok_val _ rfl rfl fun φ w2 hA => ?_
    have e82 : φ 82 = .bool false := hA.of 9 (d := 82) (by simp) rfl rfl
    simp only [execOp, Og.ev, e82]
    go_simp
  · refine Og.ok_val _ rfl rfl fun φ w2 hA => ?_
    have e83 : φ 83 = .bool true := hA.of 10 (d := 83) (by simp) rfl rfl
    simp only [execOp, Og.ev, e83]
    go_simp
  · exact Og.ok_pass (Og.wants_of 11 false true rfl (by simp) rfl rfl rfl rfl) rfl rfl
  · exact Og.ok_pass (Og.wants_of 11 false true rfl (by simp) rfl rfl rfl rfl) rfl rfl
  · exact Og.ok_pass (Og.wants_of 11 false true rfl (by simp) rfl rfl rfl rfl) rfl rfl
  · exact Og.ok_pass (Og.wants_of 11 false true rfl (by simp) rfl rfl rfl rfl) rfl rfl
  · exact Og.ok_pass (Og.wants_of 11 false true rfl (by simp) rfl rfl rfl rfl) rfl rfl
  · exact Og.ok_pass (Og.wants_of 11 false true rfl (by simp) rfl rfl rfl rfl) rfl rfl
  · refine Og.ok_val _ rfl rfl fun φ w2 hA => ?_
    have e84 : φ 84 = .bool true := hA.of 11 (d := 84) (by simp) rfl rfl
    rw [hok]
    simp only [execOp, Og.ev, e84]
    go_simp
  · exact Og.ok_wpass _ 78 rfl (.inr rfl) fun φ w2 hA => hA.of 5 (d := 78) (by simp) rfl rfl
  · refine Og.ok_val _ rfl rfl fun φ w2 hA => ?_
    have e91 : φ 91 = .bool (Wi.okF p (.sum f)) := hA.of 18 (d := 91) (by simp) rfl rfl
    simp only [execOp, Og.ev, e91]
    go_simp
  · rename_i hnext
    intro φ a w2 hF hR h0 hV _
    obtain ⟨hv1, hv2⟩ := hV 19 _ 6 rfl rfl rfl
    have hv3 : φ 7 = .bool (Wi.okF p (.sum f)) := hV 20 _ 7 rfl rfl rfl
    refine hnext a w2 (wp_ret ?_)
    simp only [Exit.inBlock, Exit.then]
    refine bodyPost_ret (v := .tuple #[φ 6, .bool (Wi.okF p (.sum f))]) ?_ hF.1 ?_
    · rw [← hv3, ← hF.2.2 6, ← hF.2.2 7]
      exact results_tmp2 rfl _ _ _
    · exact ⟨φ 6, rfl, hv1, hv2⟩

set_option maxHeartbeats 8000000 in
theorem write_sum_true {w : World} {B b : Nat} {v pv : Value} {l : List UInt8} {p : Wi.Pk} (f : FuncId) (hf : f = 63 ∨ f = 78) (hzf : Wi.zeroOf f p = true) (h : OB B w v l) (hB : B ≤ w.heap.size) (hP : PkAt w b p pv) (hp : p.Ok) (hbB : b < B) (hl : l.length + 32 ≤ 140737488355328) :
    Calls Tryd.prog 41 #[v, fdV (.sum f), .pointer (some ⟨b, 0, none⟩)] w fun e w' => ∃ v', e = .returned (.tuple #[v', .bool (Wi.okF p (.sum f))]) ∧ OB B w' v' (l ++ Wi.wrF p (.sum f)) ∧ After w w' v v' := by
  have hok : Wi.okF p (.sum f) = decide (p.sum = Wi.zeros) := by simp [Wi.okF, hzf]
  have hent : Og.Enters Tryd.prog f := by
    rcases hf with rfl | rfl
    all_goals (intro args w; kernel_rfl)
  have ta1 := fun w => ta_sum_n w f
  have ta2 := fun w => ta_sum_g w f
  have ta3 := fun w => ta_sum w f
  generalize hfv : fdV (.sum f) = fv at *
  clear hfv
  generalize zv 107 = z1 at *
  generalize zv 117 = z2 at *
  have hb1 := below_alloc1 w (.cells #[fnV f] 113)
  go_enter Tryd.func41, Tryd.ntmps41
  go_wp2_with fail
  have hbx := heap_new w (.cells #[fnV f] 113) w.heap.size rfl
  refine Og.wp_region_og _ (fun j => j == 19 || j == 20)
    (Og.Vt [v, .pointer (some ⟨b, 0, none⟩), .pointer (some ⟨b, 0, none⟩), .pointer (some ⟨b, 10, none⟩), .slice (some ⟨b, 10, none⟩) 32 32, undef, .pointer (some ⟨w.heap.size, 0, none⟩), fnV f, .pointer (some ⟨b, 0, none⟩), .bool true, .bool false, .bool false, .pointer (some ⟨b, 0, none⟩), .pointer (some ⟨b, 0, none⟩), .pointer (some ⟨b, 10, none⟩), .agg (p.sum.map bv).toArray, .agg (Wi.zeros.map bv).toArray, .bool (decide (p.sum = Wi.zeros)), .bool (Wi.okF p (.sum f)), undef, .bool (Wi.okF p (.sum f))] [(5, fun u w' => OB B w' u (l ++ p.sum) ∧ After w w' v u), (19, fun u w' => OB B w' u (l ++ p.sum) ∧ After w w' v u)])
    (fun w' => w'.heap[w.heap.size]? = some (.cells #[fnV f] 113 (0, 0)) ∧ PkAt w' b p pv)
    (fun j w' => j = 5 → OB B w' v l ∧ After w w' v v) 117 rfl (by kernel_rfl) (by kernel_rfl) ⟨hbx, (hP.below hb1).below (Below.drew (Below.refl _ _))⟩ (fun _ _ _ => ⟨(h.below hb1).below (Below.drew (Below.refl _ _)), (After.alloc w v _).trans (After.below v (Below.drew (Below.refl _ _)))⟩) (Og.allOps ⟨?_, ?_, ?_, ?_, ?_, ?_, ?_, ?_, ?_, ?_, ?_, ?_, ?_, ?_, ?_, ?_, ?_, ?_, ?_, ?_, ?_, trivial⟩) ?_
  · refine Og.ok_val _ rfl rfl fun φ w2 hA => ?_
    have e0 : φ 0 = v := hA.old 0 (by kernel_rfl)
    simp only [execOp, Og.ev, e0]
    go_simp
  · refine Og.ok_val _ rfl rfl fun φ w2 hA => ?_
    have e2 : φ 2 = .pointer (some ⟨b, 0, none⟩) := hA.old 2 (by kernel_rfl)
    simp only [execOp, Og.ev, e2]
    go_simp
  · refine Og.ok_val _ rfl rfl fun φ w2 hA => ?_
    have e74 : φ 74 = .pointer (some ⟨b, 0, none⟩) := hA.of 1 (d := 74) (by simp) rfl rfl
    simp only [execOp, Og.ev, e74]
    go_simp
  · refine Og.ok_val _ rfl rfl fun φ w2 hA => ?_
    have e75 : φ 75 = .pointer (some ⟨b, 0, none⟩) := hA.of 2 (d := 75) (by simp) rfl rfl
    simp only [execOp, Og.ev, e75]
    go_simp
  · refine Og.ok_val _ rfl rfl fun φ w2 hA => ?_
    have e76 : φ 76 = .pointer (some ⟨b, 10, none⟩) := hA.of 3 (d := 76) (by simp) rfl rfl
    simp only [execOp, Og.ev, e76]
    go_simp
  · refine Og.ok_wval _ rfl fun φ w2 hA => ?_
    have e0 : φ 73 = v := hA.of 0 (d := 73) (by simp) rfl rfl
    have e1 : φ 77 = .slice (some ⟨b, 10, none⟩) 32 32 := hA.of 4 (d := 77) (by simp) rfl rfl
    obtain ⟨hbk, hpk⟩ := hA.keep
    obtain ⟨hob, haf⟩ := hA.tok rfl
    have hBs : B ≤ w2.heap.size := Nat.le_trans hB haf.grown.size
    obtain ⟨u, w3, hrun, hu, hg, hat⟩ := run_append_OB hob (hpk.rbSum hp) (by rw [hp.sum]; omega) hBs
    have hau : After w2 w3 v u := After.of hg hat
    have hnv : v.ownBlock ≠ some w.heap.size := fun e => by have := (h.lt _ e).2; omega
    refine ⟨u, w3, Og.exec_append rfl (by simp only [Og.ev]; rw [e0, e1]; exact hrun), ⟨blk_grown hbk hg hnv, hpk.grown hg (hob.ne hbB)⟩, ⟨hu, haf.trans hau⟩, fun j hj hT hj2 => absurd (hj2 ▸ hj) (Bool.eq_false_iff.1 (by kernel_rfl)), fun x hx hn u' hu' => ?_⟩
    simp only [List.mem_cons, List.not_mem_nil, or_false] at hx
    rcases hx with rfl | rfl
    · exact absurd hn (Bool.eq_false_iff.1 (by kernel_rfl))
    · exact absurd hn (Bool.eq_false_iff.1 (by kernel_rfl))
  · refine Og.ok_val _ rfl rfl fun φ w2 hA => ?_
    have e13 : φ 13 = .pointer (some ⟨w.heap.size, 0, none⟩) := hA.old 13 (by kernel_rfl)
    simp only [execOp, Og.ev, e13]
    go_simp
  · refine Og.ok_val _ rfl rfl fun φ w2 hA => ?_
    have e79 : φ 79 = .pointer (some ⟨w.heap.size, 0, none⟩) := hA.of 6 (d := 79) (by simp) rfl rfl
    have hc := has_cell hA.keep.1 0
    simp only [execOp, Og.ev, e79]
    go_simp
  · refine Og.ok_val _ rfl rfl fun φ w2 hA => ?_
    have e2 : φ 2 = .pointer (some ⟨b, 0, none⟩) := hA.old 2 (by kernel_rfl)
    simp only [execOp, Og.ev, e2]
    go_simp
  · refine Og.ok_call_fn _ _ _ _ ?_ ?_ ?_ rfl rfl rfl fun φ w2 hA => ?_
    · intro x hx u w3 w4 hu hb
      simp only [List.mem_cons, List.not_mem_nil, or_false] at hx
      rcases hx with rfl | rfl
      · exact ⟨hu.1.below hb, hu.2.trans (After.below u hb)⟩
      · exact ⟨hu.1.below hb, hu.2.trans (After.below u hb)⟩
    · exact fun w3 w4 hR hb => ⟨blk_below hR.1 hb, hR.2.below hb⟩
    · exact fun j w3 w4 hT hb hj => ⟨(hT hj).1.below hb, (hT hj).2.trans (After.below v hb)⟩
    · have e0 : φ 80 = fnV f := hA.of 7 (d := 80) (by simp) rfl rfl
      have e1 : φ 81 = .pointer (some ⟨b, 0, none⟩) := hA.of 8 (d := 81) (by simp) rfl rfl
      have hz := zero_calls hf hA.keep.2
      rw [hzf] at hz
      exact ⟨f, #[.pointer (some ⟨b, 0, none⟩)], hent, e0, by simp [Og.ev, e1], hz.out⟩
  · refine Og.ok_val _ rfl rfl fun φ w2 hA => ?_
    have e82 : φ 82 = .bool true := hA.of 9 (d := 82) (by simp) rfl rfl
    simp only [execOp, Og.ev, e82]
    go_simp
  · refine Og.ok_val _ rfl rfl fun φ w2 hA => ?_
    have e83 : φ 83 = .bool false := hA.of 10 (d := 83) (by simp) rfl rfl
    simp only [execOp, Og.ev, e83]
    go_simp
  · refine Og.ok_val_g _ (Og.wants_of 11 false false rfl (by simp) rfl rfl rfl rfl) rfl rfl fun φ w2 hA => ?_
    have e2 : φ 2 = .pointer (some ⟨b, 0, none⟩) := hA.old 2 (by kernel_rfl)
    simp only [execOp, Og.ev, e2]
    go_simp
  · refine Og.ok_val_g _ (Og.wants_of 11 false false rfl (by simp) rfl rfl rfl rfl) rfl rfl fun φ w2 hA => ?_
    have e85 : φ 85 = .pointer (some ⟨b, 0, none⟩) := hA.of 12 (d := 85) (by simp) rfl rfl
    simp only [execOp, Og.ev, e85]
    go_simp
  · refine Og.ok_val_g _ (Og.wants_of 11 false false rfl (by simp) rfl rfl rfl rfl) rfl rfl fun φ w2 hA => ?_
    have e86 : φ 86 = .pointer (some ⟨b, 0, none⟩) := hA.of 13 (d := 86) (by simp) rfl rfl
    simp only [execOp, Og.ev, e86]
    go_simp
  · refine Og.ok_val_g _ (Og.wants_of 11 false false rfl (by simp) rfl rfl rfl rfl) rfl rfl fun φ w2 hA => ?_
    have e87 : φ 87 = .pointer (some ⟨b, 10, none⟩) := hA.of 14 (d := 87) (by simp) rfl rfl
    exact Og.exec_load rfl (by simp only [Og.ev]; rw [e87]; exact load_sum hA.keep.2 hp)
  · refine Og.ok_val_g _ (Og.wants_of 11 false false rfl (by simp) rfl rfl rfl rfl) rfl rfl fun φ w2 hA => ?_
    kernel_rfl
  · refine Og.ok_val_g _ (Og.wants_of 11 false false rfl (by simp) rfl rfl rfl rfl) rfl rfl fun φ w2 hA => ?_
    have e88 : φ 88 = .agg (p.sum.map bv).toArray := hA.of 15 (d := 88) (by simp) rfl rfl
    have e89 : φ 89 = .agg (Wi.zeros.map bv).toArray := hA.of 16 (d := 89) (by simp) rfl rfl
    exact exec_eql rfl (by exact e88) (by exact e89) (by kernel_rfl) (eql_sum w2 p hp)
  · refine Og.ok_val _ rfl rfl fun φ w2 hA => ?_
    have e84 : φ 84 = .bool false := hA.of 11 (d := 84) (by simp) rfl rfl
    have e90 : φ 90 = .bool (decide (p.sum = Wi.zeros)) := hA.of 17 (d := 90) (by simp) rfl rfl
    rw [hok]
    simp only [execOp, Og.ev, e84, e90]
    go_simp
  · exact Og.ok_wpass _ 78 rfl (.inr rfl) fun φ w2 hA => hA.of 5 (d := 78) (by simp) rfl rfl
  · refine Og.ok_val _ rfl rfl fun φ w2 hA => ?_
    have e91 : φ 91 = .bool (Wi.okF p (.sum f)) := hA.of 18 (d := 91) (by simp) rfl rfl
    simp only [execOp, Og.ev, e91]
    go_simp
  · rename_i hnext
    intro φ a w2 hF hR h0 hV _
    obtain ⟨hv1, hv2⟩ := hV 19 _ 6 rfl rfl rfl
    have hv3 : φ 7 = .bool (Wi.okF p (.sum f)) := hV 20 _ 7 rfl rfl rfl
    refine hnext a w2 (wp_ret ?_)
    simp only [Exit.inBlock, Exit.then]
    refine bodyPost_ret (v := .tuple #[φ 6, .bool (Wi.okF p (.sum f))]) ?_ hF.1 ?_
    · rw [← hv3, ← hF.2.2 6, ← hF.2.2 7]
      exact results_tmp2 rfl _ _ _
    · exact ⟨φ 6, rfl, hv1, hv2⟩

end Go.Proofs.YtbgfoobcpacfeaaDoor

/- A field's bytes, whichever it is; does a command carry data. -/
namespace Go.Proofs.YtbgfoobcpacfeaaDoor
open Go.RowKit
set_option maxRecDepth 100000
set_option linter.unusedVariables false
set_option linter.unusedSimpArgs false

theorem write_calls {w : World} {B b : Nat} {v pv : Value} {l : List UInt8} {p : Wi.Pk} (x : Fd) (hx : FdOk x) (h : OB B w v l) (hB : B ≤ w.heap.size) (hP : PkAt w b p pv) (hp : p.Ok) (hbB : b < B) (hS : Szs w) (h3 : 3 < B) (hr : RB w pv p.data) (hpB : p.data ≠ [] → ∀ g, pv.ownBlock = some g → g < B)
    (hl : l.length + 34 + p.data.length ≤ 140737488355328) :
    Calls Tryd.prog 41 #[v, fdV x, .pointer (some ⟨b, 0, none⟩)] w fun e w' => ∃ v', e = .returned (.tuple #[v', .bool (Wi.okF p x)]) ∧ OB B w' v' (l ++ Wi.wrF p x) ∧ After w w' v v' := by
  cases x with
  | num k f => exact write_num k f hx.2.2 h hB hP hp hbB hS h3 (by omega)
  | gens => exact write_gens h hB hP hp hbB (by omega)
  | sum f =>
    cases hz : Wi.zeroOf f p
    · exact write_sum_false f hx hz h hB hP hp hbB (by omega)
    · exact write_sum_true f hx hz h hB hP hp hbB (by omega)
  | dat f => exact write_dat f hx h hB hP hp hbB hS h3 hr hpB (by omega)

/-- The fields lie there. -/
def FldsAt (w : World) (g : Nat) (fs : List Fd) : Prop := w.heap[g]? = some (.cells (fs.map fdV).toArray 79 (0, 0))
theorem FldsAt.cell {w : World} {g : Nat} {fs : List Fd} (h : FldsAt w g fs) {i : Nat} {x : Fd} (hi : fs[i]? = some x) : w.cell? ⟨g, i, none⟩ = some (fdV x) := by
  rw [has_cell h]; simp [hi]
/-- The loop of 'holds', behind i fields. -/
def HoldsI (fs : List Fd) (g : Nat) (w : World) (i : Nat) (a : Act) (w' : World) : Prop :=
  (∃ U : Nat → Value, a = ⟨#[U 0, U 1, .bool false, U 3, U 4, U 5, U 6, .slice (some ⟨g, 0, none⟩) fs.length fs.length, .int .i64 fs.length, .int .i64 i, U 10, U 11, U 12, U 13, U 14, U 15, U 16, U 17, U 18, U 19], []⟩) ∧ Wi.holdsD (fs.take i) = false ∧ Below w.heap.size w w'
theorem ta_dat_all (x : Fd) : ∃ z, (∀ w, (Instr.typeAssert (fdV x) 79 115 true).run Tryd.prog w = .ok (.tuple #[.agg #[z], .bool (Wi.Fd.isDat x)]) w) ∧ ∀ w a m, (store a z m).run Tryd.prog w = stored Tryd.prog w a z m := by
  cases x with
  | num k f => exact ⟨.nilFunc, fun w => by kernel_rfl, fun w a m => run_store _ w a _ m rfl⟩
  | gens => exact ⟨.nilFunc, fun w => by kernel_rfl, fun w a m => run_store _ w a _ m rfl⟩
  | sum f => exact ⟨.nilFunc, fun w => by kernel_rfl, fun w a m => run_store _ w a _ m rfl⟩
  | dat f => exact ⟨fnV f, fun w => by kernel_rfl, fun w a m => run_store _ w a _ m rfl⟩

set_option maxHeartbeats 8000000 in
theorem holds_calls {w : World} {g : Nat} {fs : List Fd} (h : FldsAt w g fs) (hfl : fs.length ≤ 8) : Pur Tryd.prog 42 #[.slice (some ⟨g, 0, none⟩) fs.length fs.length] w (.bool (Wi.holdsD fs)) := by
  unfold Pur
  go_enter Tryd.func42, Tryd.ntmps42
  go_wp2_with fail
  refine wp_loop_count (HoldsI fs g w) fs.length ⟨exU (fun U => ⟨#[U 0, U 1, .bool false, U 3, U 4, U 5, U 6, .slice (some ⟨g, 0, none⟩) fs.length fs.length, .int .i64 fs.length, .int .i64 0, U 10, U 11, U 12, U 13, U 14, U 15, U 16, U 17, U 18, U 19], []⟩) rfl, rfl, Below.refl _ _⟩ ?_ ?_
  · rintro i a w' hi ⟨⟨U, rfl⟩, hn, hb⟩
    obtain ⟨x, hx⟩ : ∃ x, fs[i]? = some x := ⟨fs[i], List.getElem?_eq_getElem hi⟩
    have hcell := (bcellB hb).1 g i (heap_lt h)
    rw [h.cell hx] at hcell
    have Hn : Hid (Wi.holdsD (fs.take (i + 1)) = (Wi.holdsD (fs.take i) || Wi.Fd.isDat x)) := any_take_next Wi.Fd.isDat hx
    obtain ⟨z, hz, hst⟩ := ta_dat_all x
    generalize hfx : fdV x = fx at *
    have hil : (i : Int) < (fs.length : Int) := by exact_mod_cast hi
    have h8 : (i : Int) < 8 := by omega
    have hi0 : (0 : Int) ≤ (i : Int) := Int.natCast_nonneg i
    have Hall : Hid (Wi.Fd.isDat x = true → Wi.holdsD fs = true) := fun hd => by
      unfold Wi.holdsD
      exact List.any_eq_true.2 ⟨x, List.mem_of_getElem? hx, hd⟩
    clear hx hfx hi hfl
    cases hd : Wi.Fd.isDat x with
    | true =>
      have Hh := Lib.hid (Hall.out hd)
      clear Hall
      rw [hd] at hz
      go_wp2_with fail
      go_ret
      rw [Hh.out]
      exact ⟨rfl, hb.trans ((below_alloc1 _ _).mono hb.size)⟩
    | false =>
      rw [hd] at hz Hn
      go_wp2_with fail
      exact ⟨exU (fun U => ⟨#[U 0, U 1, .bool false, U 3, U 4, U 5, U 6, .slice (some ⟨g, 0, none⟩) fs.length fs.length, .int .i64 fs.length, .int .i64 (i + 1 : Nat), U 10, U 11, U 12, U 13, U 14, U 15, U 16, U 17, U 18, U 19], []⟩) rfl, by rw [Hn.out, hn]; rfl, hb.trans ((below_alloc1 _ _).mono hb.size)⟩
  · rintro a w' ⟨⟨U, rfl⟩, hn, hb⟩
    rw [List.take_length] at hn
    go_wp2_with fail
    go_ret
    exact ⟨by rw [hn]; rfl, hb⟩
end Go.Proofs.YtbgfoobcpacfeaaDoor
