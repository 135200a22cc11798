/- Walks and plain laws of the packets and frames, joined from: Og, StU, KpL, KpM, KpS, By, Lw, LwU, LwM3. -/
import Derived.Test.YtckbckdaffdjmaaDoorMk5
import Derived.Deep.MidRow
import Derived.Deep.Upon
import Derived.Maps.AppendAt
import Derived.Laws.OwnMore
import Derived.WalkSpells
import Derived.Lib.LazyBuf
import Derived.Test.YtckbckdaffdjmaaDoorCards
import Derived.Test.YtckbckdaffdjmaaDoorTie
import Derived.LaidMore
import Derived.SevenTiedAt
/- Regions that draw their order and hold several operations that make memory: each operation by itself, at any order: what each slot holds (V) is told of the world, and must outlast the others. -/
namespace Go.Proofs.YtckbckdaffdjmaaDoor
open Go.RowKit
set_option linter.unusedSimpArgs false
namespace Og
/-- The frame is φ. -/
def Fr (n : Nat) (a : Act) (φ : Nat → Value) : Prop := a.defers = [] ∧ a.tmps.size = n ∧ ∀ t, a.tmps.getD t undef = φ t
def upd (φ : Nat → Value) (d : Nat) (v : Value) : Nat → Value := fun t => if t = d then v else φ t
def ev (φ : Nat → Value) : Operand → Value
  | .tmp t => φ t
  | .const v => v
  | .global g => .pointer (some ⟨g, 0, none⟩)
  | .func f => .func (.func f) #[] #[]
theorem Fr.eval {n : Nat} {a : Act} {φ : Nat → Value} (h : Fr n a φ) : a.eval = ev φ := by
  funext x
  cases x with
  | tmp t => exact h.2.2 t
  | const v => rfl
  | global g => rfl
  | func f => rfl
theorem Fr.put {n : Nat} {a : Act} {φ : Nat → Value} (h : Fr n a φ) (d : Nat) (v : Value) (hd : d < n) : Fr n (a.put (some d) v) (upd φ d v) := by
  obtain ⟨h1, h2, h3⟩ := h
  refine ⟨h1, by simpa [Act.put] using h2, fun t => ?_⟩
  have := h3 t
  simp only [Act.put, upd, Array.getD_eq_getD_getElem?] at this ⊢
  by_cases e : t = d
  · subst e
    simp [Array.getElem?_setIfInBounds, h2, hd]
  · rw [if_neg e, Array.getElem?_setIfInBounds_ne (Ne.symm e)]
    exact this
theorem Fr.lit {n : Nat} {t : Array Value} (hn : t.size = n) : Fr n ⟨t, []⟩ (fun k => t.getD k undef) := ⟨rfl, hn, fun _ => rfl⟩

theorem Fr.lit_eq {n : Nat} {a : Act} {φ : Nat → Value} (h : Fr n a φ) : a = ⟨((List.range n).map φ).toArray, []⟩ := by
  obtain ⟨t, d⟩ := a
  obtain ⟨h1, h2, h3⟩ := h
  simp only at h1 h2 h3
  subst h1
  congr 1
  apply Array.ext
  · simpa using h2
  · intro i hi _
    have := h3 i
    simp only [Array.getD_eq_getD_getElem?, Array.getElem?_eq_getElem hi, Option.getD_some] at this
    simpa using this
theorem Fr.lit_ex {n : Nat} {a : Act} {φ : Nat → Value} (h : Fr n a φ) (F : (Nat → Value) → Act) (he : (⟨((List.range n).map φ).toArray, []⟩ : Act) = F φ) : ∃ U, a = F U := ⟨φ, h.lit_eq.trans he⟩
def isData : Edge → Bool
  | ⟨_, .data⟩ => true
  | ⟨_, .guard⟩ => true
  | _ => false
/-- Is the operation wanted in that frame? -/
def wantF (l : List Oper) (φ : Nat → Value) (o : Oper) : Bool := Region.wanted o fun j => match (l[j]?).bind (·.dst) with
  | some d => match φ d with
    | .bool b => some b
    | _ => none
  | none => none
/-- Does the operation use what operation j yields? -/
def usesB (o : Oper) (j : Nat) : Bool := o.after.toList.any fun e => isData e && e.on == j
/-- Must operation j be done ahead of the operation? -/
def tiedB (o : Oper) (j : Nat) : Bool := o.after.toList.any fun e => Region.binds .any e && e.on == j
def isDst (l : List Oper) (t : Nat) : Bool := l.any fun o => o.dst == some t
/-- Must what operation j yields outlast operation i? -/
def need (l : List Oper) (F : Nat → Bool) (j i : Nat) : Bool := j != i && !(match l[j]? with | some o => tiedB o i | none => false) && (F j || (List.range l.length).any fun k => k != i && match l[k]? with
  | some o => usesB o j
  | none => false)
/-- May operation j still be to come when operation i is done? -/
def open_ (l : List Oper) (j i : Nat) : Bool := j != i && !(match l[i]? with | some o => tiedB o j | none => false)
def wellB (l : List Oper) (n : Nat) : Bool :=
  (l.all fun o => match o.dst with | some d => decide (d < n) | none => true) && decide (l.filterMap (·.dst)).Nodup &&
  ((List.range l.length).all fun i => match l[i]? with | some o => o.after.all (fun e => !Region.binds .any e || decide (e.on < i)) | none => true)

section
variable {P : Program} {l : List Oper} {F : Nat → Bool} {V : Nat → Value → World → Prop} {R : World → Prop} {T : Nat → World → Prop} {φ0 : Nat → Value} {n : Nat}

/-- What operation i leaves. -/
structure Good (l : List Oper) (F : Nat → Bool) (V : Nat → Value → World → Prop) (R : World → Prop) (T : Nat → World → Prop) (i : Nat) (v : Value) (w w' : World) : Prop where
  keep : R w'
  val : V i v w'
  tok : ∀ j, open_ l j i = true → T j w → T j w'
  rest : ∀ j u, need l F j i = true → V j u w → V j u w'
def OpOk (P : Program) (l : List Oper) (F : Nat → Bool) (V : Nat → Value → World → Prop) (R : World → Prop) (T : Nat → World → Prop) (φ0 : Nat → Value) (i : Nat) (o : Oper) : Prop :=
  ∀ φ w, R w → T i w → (∀ t, isDst l t = false → φ t = φ0 t) → (∀ e ∈ o.after, isData e = true → ∀ oj d, l[e.on]? = some oj → oj.dst = some d → V e.on (φ d) w) →
    (wantF l φ o = true → match (execOp (ev φ) o).run P w with
    | .ok (.value v) w' => Good l F V R T i v w w'
    | .ok .skip w' => Good l F V R T i undef w w'
    | .ok (.enter f args) w' => Calls P f args w' fun e w'' => ∃ v, e = .returned v ∧ Good l F V R T i v w w''
    | _ => False) ∧ (wantF l φ o = false → Good l F V R T i undef w w)

/-- The frame and the world where some are done. -/
def Inv (l : List Oper) (F : Nat → Bool) (V : Nat → Value → World → Prop) (R : World → Prop) (T : Nat → World → Prop) (φ0 : Nat → Value) (n : Nat) (listed : Array Bool) (a : Act) (w : World) : Prop :=
  ∃ φ, Fr n a φ ∧ R w ∧ (∀ i, i < l.length → listed.getD i true = false → T i w) ∧ (∀ j oj, l[j]? = some oj → listed.getD j true = true → ∀ e ∈ oj.after, Region.binds .any e = true → listed.getD e.on false = true) ∧ (∀ t, isDst l t = false → φ t = φ0 t) ∧
    (∀ j oj d, l[j]? = some oj → oj.dst = some d → listed.getD j true = true → (F j = true ∨ ∃ k ok, l[k]? = some ok ∧ listed.getD k true = false ∧ usesB ok j = true) → V j (φ d) w) ∧
    ∀ j oj, l[j]? = some oj → oj.dst = none → listed.getD j true = true → (F j = true ∨ ∃ k ok, l[k]? = some ok ∧ listed.getD k true = false ∧ usesB ok j = true) → ∃ u, V j u w

theorem dst_ne (hn : (l.filterMap (·.dst)).Nodup) {i j d : Nat} {oi oj : Oper} (hi : l[i]? = some oi) (hj : l[j]? = some oj) (di : oi.dst = some d) (dj : oj.dst = some d) : i = j := by
  induction l generalizing i j with
  | nil => simp at hi
  | cons x l ih =>
    have hmem : ∀ (k : Nat) (o : Oper), l[k]? = some o → o.dst = some d → d ∈ l.filterMap (·.dst) := fun k o hk ho => List.mem_filterMap.2 ⟨o, List.mem_of_getElem? hk, ho⟩
    cases hx : x.dst with
    | none =>
      have hn' : (l.filterMap (·.dst)).Nodup := by simpa [List.filterMap_cons, hx] using hn
      cases i with
      | zero => simp only [List.getElem?_cons_zero, Option.some.injEq] at hi; subst hi; rw [hx] at di; cases di
      | succ i =>
        cases j with
        | zero => simp only [List.getElem?_cons_zero, Option.some.injEq] at hj; subst hj; rw [hx] at dj; cases dj
        | succ j => exact congrArg (· + 1) (ih hn' (by simpa using hi) (by simpa using hj))
    | some y =>
      have hn2 : y ∉ l.filterMap (·.dst) ∧ (l.filterMap (·.dst)).Nodup := by simpa [List.filterMap_cons, hx] using hn
      cases i with
      | zero =>
        simp only [List.getElem?_cons_zero, Option.some.injEq] at hi; subst hi
        rw [hx] at di; cases di
        cases j with
        | zero => rfl
        | succ j => exact absurd (hmem j oj (by simpa using hj) dj) hn2.1
      | succ i =>
        cases j with
        | zero =>
          simp only [List.getElem?_cons_zero, Option.some.injEq] at hj; subst hj
          rw [hx] at dj; cases dj
          exact absurd (hmem i oi (by simpa using hi) di) hn2.1
        | succ j => exact congrArg (· + 1) (ih hn2.2 (by simpa using hi) (by simpa using hj))

theorem isDst_of {t k : Nat} {o : Oper} (hk : l[k]? = some o) (h : o.dst = some t) : isDst l t = true := List.any_eq_true.2 ⟨o, List.mem_of_getElem? hk, by simp [h]⟩

theorem Inv.step (hB : wellB l n = true) {listed : Array Bool} (hs : listed.size = l.length) {i : Nat} {o : Oper} (hi : l[i]? = some o) (hun : listed.getD i true = false) {φ : Nat → Value} {a : Act} {w w' : World} {v : Value}
    (hF : Fr n a φ) (htk : ∀ i, i < l.length → listed.getD i true = false → T i w) (hdc : ∀ j oj, l[j]? = some oj → listed.getD j true = true → ∀ e ∈ oj.after, Region.binds .any e = true → listed.getD e.on false = true) (hdi : ∀ e ∈ o.after, Region.binds .any e = true → listed.getD e.on false = true) (h0 : ∀ t, isDst l t = false → φ t = φ0 t)
    (hv : ∀ j oj d, l[j]? = some oj → oj.dst = some d → listed.getD j true = true → (F j = true ∨ ∃ k ok, l[k]? = some ok ∧ listed.getD k true = false ∧ usesB ok j = true) → V j (φ d) w)
    (hvn : ∀ j oj, l[j]? = some oj → oj.dst = none → listed.getD j true = true → (F j = true ∨ ∃ k ok, l[k]? = some ok ∧ listed.getD k true = false ∧ usesB ok j = true) → ∃ u, V j u w)
    (hg : Good l F V R T i v w w') : Inv l F V R T φ0 n (listed.setIfInBounds i true) (a.put o.dst v) w' := by
  simp only [wellB, Bool.and_eq_true, decide_eq_true_eq, List.all_eq_true] at hB
  obtain ⟨⟨hall, hnd⟩, hord⟩ := hB
  have ho := hall o (List.mem_of_getElem? hi)
  obtain ⟨hk, hval, htok, hrest⟩ := hg
  have htk' : ∀ j, j < l.length → (listed.setIfInBounds i true).getD j true = false → T j w' := fun j hj hl => by
    by_cases e : j = i
    · subst e
      have : (listed.setIfInBounds j true).getD j true = true := by simp [Array.getD_eq_getD_getElem?, Array.getElem?_setIfInBounds, hs, hj]
      rw [this] at hl; cases hl
    · rw [getD_set_ne true (Ne.symm e)] at hl
      refine htok j ?_ (htk j hj hl)
      have hnu : tiedB o j = false := by
        cases hu : tiedB o j with
        | false => rfl
        | true =>
          obtain ⟨e1, he, hee⟩ := List.any_eq_true.1 hu
          simp only [Bool.and_eq_true, beq_iff_eq] at hee
          have h3 := hdi e1 (Array.mem_toList_iff.1 he) hee.1
          rw [hee.2] at h3
          have hlt : j < listed.size := by omega
          simp [Array.getD_eq_getD_getElem?, hlt] at hl h3
          rw [hl] at h3; cases h3
      simp [open_, e, hi, hnu]
  have hdc' : ∀ j oj, l[j]? = some oj → (listed.setIfInBounds i true).getD j true = true → ∀ e ∈ oj.after, Region.binds .any e = true → (listed.setIfInBounds i true).getD e.on false = true := fun j oj hj hl e he hb => by
    by_cases e' : j = i
    · subst e'
      obtain rfl : o = oj := Option.some.inj (hi.symm.trans hj)
      exact getD_set_true (hdi e he hb)
    · rw [getD_set_ne true (Ne.symm e')] at hl
      exact getD_set_true (hdc j oj hj hl e he hb)
  have needs : ∀ j oj, j ≠ i → l[j]? = some oj → listed.getD j true = true → (F j = true ∨ ∃ k ok, l[k]? = some ok ∧ (listed.setIfInBounds i true).getD k true = false ∧ usesB ok j = true) →
      need l F j i = true ∧ (F j = true ∨ ∃ k ok, l[k]? = some ok ∧ listed.getD k true = false ∧ usesB ok j = true) := by
      intro j oj hji hj hl hlive
      have hnu : tiedB oj i = false := by
        cases hu : tiedB oj i with
        | false => rfl
        | true =>
          obtain ⟨e, he, hee⟩ := List.any_eq_true.1 hu
          simp only [Bool.and_eq_true, beq_iff_eq] at hee
          have h3 := hdc j oj hj hl e (Array.mem_toList_iff.1 he) hee.1
          rw [hee.2] at h3
          have hlt : i < listed.size := by rw [hs]; exact (List.getElem?_eq_some_iff.1 hi).1
          simp [Array.getD_eq_getD_getElem?, hlt] at hun h3
          rw [hun] at h3; cases h3
      have hneed : need l F j i = true ∧ (F j = true ∨ ∃ k ok, l[k]? = some ok ∧ listed.getD k true = false ∧ usesB ok j = true) := by
        rcases hlive with hf | ⟨k, ok, hk', hku, huse⟩
        · exact ⟨by simp [need, hji, hf, hj, hnu], .inl hf⟩
        · by_cases hki : k = i
          · subst hki
            have : (listed.setIfInBounds k true).getD k true = true := by
              have hlt : k < listed.size := by rw [hs]; exact (List.getElem?_eq_some_iff.1 hi).1
              simp [Array.getD_eq_getD_getElem?, Array.getElem?_setIfInBounds, hlt]
            rw [this] at hku; cases hku
          · rw [getD_set_ne true (Ne.symm hki)] at hku
            refine ⟨?_, .inr ⟨k, ok, hk', hku, huse⟩⟩
            simp only [need, Bool.and_eq_true, bne_iff_ne, ne_eq, Bool.or_eq_true, List.any_eq_true, List.mem_range]
            exact ⟨⟨hji, by rw [hj]; simpa using hnu⟩, .inr ⟨k, (List.getElem?_eq_some_iff.1 hk').1, hki, by rw [hk']; exact huse⟩⟩
      exact hneed
  have key : ∀ (φ' : Nat → Value), (∀ d, o.dst = some d → φ' d = v) → (∀ t, o.dst ≠ some t → φ' t = φ t) → ∀ j oj d, l[j]? = some oj → oj.dst = some d → (listed.setIfInBounds i true).getD j true = true →
      (F j = true ∨ ∃ k ok, l[k]? = some ok ∧ (listed.setIfInBounds i true).getD k true = false ∧ usesB ok j = true) → V j (φ' d) w' := by
    intro φ' h1 h2 j oj d hj hd hl hlive
    by_cases hji : j = i
    · subst hji
      obtain rfl : o = oj := Option.some.inj (hi.symm.trans hj)
      rw [h1 d hd]; exact hval
    · have hne : o.dst ≠ some d := fun e => hji (dst_ne hnd hj hi hd e)
      rw [h2 d hne]
      rw [getD_set_ne true (Ne.symm hji)] at hl
      have hneed := needs j oj hji hj hl hlive
      exact hrest j _ hneed.1 (hv j oj d hj hd hl hneed.2)
  have keyn : ∀ j oj, l[j]? = some oj → oj.dst = none → (listed.setIfInBounds i true).getD j true = true →
      (F j = true ∨ ∃ k ok, l[k]? = some ok ∧ (listed.setIfInBounds i true).getD k true = false ∧ usesB ok j = true) → ∃ u, V j u w' := by
    intro j oj hj hd hl hlive
    by_cases hji : j = i
    · subst hji
      exact ⟨v, hval⟩
    · rw [getD_set_ne true (Ne.symm hji)] at hl
      have hneed := needs j oj hji hj hl hlive
      obtain ⟨u, hu⟩ := hvn j oj hj hd hl hneed.2
      exact ⟨u, hrest j u hneed.1 hu⟩
  cases hd : o.dst with
  | none => exact ⟨φ, hF, hk, htk', hdc', h0, key φ (fun d e => by rw [hd] at e; cases e) (fun _ _ => rfl), keyn⟩
  | some d =>
    have hlt : d < n := by have := ho; rw [hd] at this; simpa using this
    refine ⟨upd φ d v, hF.put d v hlt, hk, htk', hdc', fun t ht => ?_, key _ (fun d' e => ?_) (fun t e => ?_), keyn⟩
    · have : t ≠ d := fun e => by subst e; rw [isDst_of hi hd] at ht; cases ht
      simp only [upd, if_neg this]; exact h0 t ht
    · rw [hd] at e; cases e; simp [upd]
    · have : t ≠ d := fun e' => e (by rw [hd, e'])
      simp only [upd, if_neg this]

theorem ready_some (hB : wellB l n = true) {listed : Array Bool} (hs : listed.size = l.length) (hr : Region.ready .any l.toArray listed = []) : ∀ i, i < l.length → listed.getD i true = true := by
  simp only [wellB, Bool.and_eq_true, decide_eq_true_eq, List.all_eq_true, List.mem_range] at hB
  obtain ⟨_, hord⟩ := hB
  intro i
  induction i using Nat.strongRecOn with
  | ind i ih =>
    intro hi
    cases h : listed.getD i true with
    | true => rfl
    | false =>
      have hmem : i ∈ Region.ready .any l.toArray listed := by
        refine mem_ready.2 ⟨h, l[i], by simp [hi], fun e he hbd => ?_⟩
        have h1 := hord i hi
        rw [List.getElem?_eq_getElem hi] at h1
        have h2 : e.on < i := by simpa [hbd] using Array.all_eq_true_iff_forall_mem.1 h1 e he
        have h3 := ih e.on h2 (by omega)
        have hlt : e.on < listed.size := by omega
        simpa [Array.getD_eq_getD_getElem?, hlt] using h3
      rw [hr] at hmem; cases hmem

theorem wpAny_inv (hB : wellB l n = true) {Q : Exit → Act → World → Prop} (hstep : ∀ i o, l[i]? = some o → OpOk P l F V R T φ0 i o)
    (hend : ∀ φ a w, Fr n a φ → R w → (∀ t, isDst l t = false → φ t = φ0 t) → (∀ j o d, F j = true → l[j]? = some o → o.dst = some d → V j (φ d) w) → (∀ j o, F j = true → l[j]? = some o → o.dst = none → ∃ u, V j u w) → Q .normal a w) :
    ∀ (f : Nat) (listed : Array Bool) (a : Act) (w : World), listed.size = l.length → (f = 0 → ∀ i, i < l.length → listed.getD i true = true) → (List.range l.length).countP (fun i => !listed.getD i true) = f → Inv l F V R T φ0 n listed a w → wpAny P .any l.toArray Q f listed a w := by
  have fin : ∀ (listed : Array Bool) (a : Act) (w : World), (∀ i, i < l.length → listed.getD i true = true) → Inv l F V R T φ0 n listed a w → Q .normal a w := by
    rintro listed a w hall ⟨φ, hF, hR, htk, hdc, h0, hv, hvn⟩
    exact hend φ a w hF hR h0 (fun j o d hf hj hd => hv j o d hj hd (hall j (List.getElem?_eq_some_iff.1 hj).1) (.inl hf)) (fun j o hf hj hd => hvn j o hj hd (hall j (List.getElem?_eq_some_iff.1 hj).1) (.inl hf))
  intro f
  induction f with
  | zero =>
    intro listed a w hs h0 _ hI
    refine ⟨?_, fin listed a w (h0 rfl) hI⟩
    cases hr : Region.ready .any l.toArray listed with
    | nil => rfl
    | cons i r =>
      have hm : i ∈ Region.ready .any l.toArray listed := by rw [hr]; exact List.mem_cons_self ..
      obtain ⟨h1, o, ho, _⟩ := mem_ready.1 hm
      have hlt : i < l.length := by have := (Array.getElem?_eq_some_iff.1 ho).1; simpa using this
      rw [h0 rfl i hlt] at h1; cases h1
  | succ f ih =>
    intro listed a w hs _ hc hI
    refine ⟨fun hr => fin listed a w (ready_some hB hs hr) hI, fun i hm => ?_⟩
    obtain ⟨hun, o, ho, hdep⟩ := mem_ready.1 hm
    have hio : l[i]? = some o := by simpa using ho
    have hlt : i < l.length := (List.getElem?_eq_some_iff.1 hio).1
    obtain ⟨φ, hF, hR, htk, hdc, h0, hv, hvn⟩ := hI
    have hok := hstep i o hio φ w hR (htk i hlt hun) h0 (fun e he hd oj d hj hdj => by
      have hb : Region.binds .any e = true := by
        obtain ⟨on, g⟩ := e
        cases g <;> first | rfl | cases hd
      have hl := hdep e he hb
      refine hv e.on oj d hj hdj ?_ (.inr ⟨i, o, hio, hun, ?_⟩)
      · cases hx : listed[e.on]? with
        | none => simp [Array.getD_eq_getD_getElem?, hx] at hl
        | some b => simpa [Array.getD_eq_getD_getElem?, hx] using hl
      · exact List.any_eq_true.2 ⟨e, Array.mem_toList_iff.2 he, by simp [hd]⟩)
    have hw : Region.wanted o (yielded l.toArray a.tmps) = wantF l φ o := by
      have hall : ∀ (k : Nat) (ok : Oper) (d : Nat), l[k]? = some ok → ok.dst = some d → d < n := fun k ok d hk hd => by
        have h1 := hB
        simp only [wellB, Bool.and_eq_true, List.all_eq_true] at h1
        have h2 := h1.1.1 ok (List.mem_of_getElem? hk)
        rw [hd] at h2
        simpa using h2
      unfold wantF Region.wanted
      cases o.guard with
      | none => rfl
      | some g =>
        obtain ⟨j, want⟩ := g
        have : yielded l.toArray a.tmps j = (match (l[j]?).bind (·.dst) with
          | some d => match φ d with
            | .bool b => some b
            | _ => none
          | none => none) := by
          unfold yielded
          rw [List.getElem?_toArray]
          cases hj : l[j]? with
          | none => rfl
          | some oj =>
            cases hd : oj.dst with
            | none => simp [hd]
            | some d =>
              have hlt2 : d < a.tmps.size := by rw [hF.2.1]; exact hall j oj d hj hd
              have h3 := hF.2.2 d
              simp only [Array.getD_eq_getD_getElem?, Array.getElem?_eq_getElem hlt2, Option.getD_some] at h3
              simp only [Option.bind_some, hd, Array.getElem?_eq_getElem hlt2, h3]
              cases φ d <;> rfl
        simp only [this]
    have next : ∀ v w', Good l F V R T i v w w' → wpAny P .any l.toArray Q f (listed.setIfInBounds i true) (a.put o.dst v) w' := fun v w' hg => by
      have hcount : (List.range l.length).countP (fun j => !(listed.setIfInBounds i true).getD j true) = f := by
        have hle : ∀ (m : Nat), m ≤ l.length → (List.range m).countP (fun j => !listed.getD j true) = (List.range m).countP (fun j => !(listed.setIfInBounds i true).getD j true) + (if i < m then 1 else 0) := by
          intro m
          induction m with
          | zero => intro _; simp
          | succ m ihm =>
            intro hm'
            rw [List.range_succ, List.countP_append, List.countP_append, ihm (by omega)]
            by_cases e : m = i
            · subst e
              have h1 : (listed.setIfInBounds m true).getD m true = true := by
                simp [Array.getD_eq_getD_getElem?, Array.getElem?_setIfInBounds, hs, hlt]
              simp only [List.countP_cons, List.countP_nil, hun, h1]
              simp
            · simp only [List.countP_cons, List.countP_nil, getD_set_ne true (Ne.symm e)]
              have : (i < m + 1) = (i < m) := by simp; omega
              simp only [this]
              omega
        have := hle l.length (Nat.le_refl _)
        rw [if_pos hlt] at this
        omega
      refine ih _ _ _ (by simpa using hs) (fun hf0 => ?_) hcount (Inv.step hB hs hio hun hF htk hdc hdep h0 hv hvn hg)
      subst hf0
      intro j hj
      have := List.countP_eq_zero.1 hcount j (List.mem_range.2 hj)
      simpa using this
    unfold wpOp
    simp only [ho]
    rw [hw]
    cases hwf : wantF l φ o with
    | false =>
      simp only [Bool.false_eq_true, if_false]
      exact next undef w (hok.2 hwf)
    | true =>
      simp only [if_true]
      refine .inl ?_
      have hok := hok.1 hwf
      unfold Oper.wp
      rw [hF.eval]
      generalize (execOp (ev φ) o).run P w = r at hok
      cases r with
      | ok x w' =>
        cases x <;> simp only [Oper.upon] <;> simp only at hok
        case value v => exact next v w' hok
        case skip => exact next undef w' hok
        case enter g args =>
          exact Calls.mono hok fun e w'' ⟨v, he, hg⟩ => by subst he; exact next v w'' hg
        all_goals exact hok.elim
      | halt x w' => exact hok.elim

/-- One operation, the others as they are. -/
theorem inv_op (hB : wellB l n = true) {Q : Exit → Act → World → Prop} (hstep : ∀ i o, l[i]? = some o → OpOk P l F V R T φ0 i o) {listed : Array Bool} {a : Act} {w : World} {i : Nat} {o : Oper} {K : Act → World → Prop} (hs : listed.size = l.length) (hio : l[i]? = some o) (hun : listed.getD i true = false)
    (hdep : ∀ e ∈ o.after, Region.binds .any e = true → listed.getD e.on false = true) (hI : Inv l F V R T φ0 n listed a w) (hK : ∀ a' w', Inv l F V R T φ0 n (listed.setIfInBounds i true) a' w' → K a' w') :
    if Region.wanted o (yielded l.toArray a.tmps) = true then o.wp P a w K Q else K (a.put o.dst undef) w := by
    have hlt : i < l.length := (List.getElem?_eq_some_iff.1 hio).1
    obtain ⟨φ, hF, hR, htk, hdc, h0, hv, hvn⟩ := hI
    have hok := hstep i o hio φ w hR (htk i hlt hun) h0 (fun e he hd oj d hj hdj => by
      have hb : Region.binds .any e = true := by
        obtain ⟨on, g⟩ := e
        cases g <;> first | rfl | cases hd
      have hl := hdep e he hb
      refine hv e.on oj d hj hdj ?_ (.inr ⟨i, o, hio, hun, ?_⟩)
      · cases hx : listed[e.on]? with
        | none => simp [Array.getD_eq_getD_getElem?, hx] at hl
        | some b => simpa [Array.getD_eq_getD_getElem?, hx] using hl
      · exact List.any_eq_true.2 ⟨e, Array.mem_toList_iff.2 he, by simp [hd]⟩)
    have hw : Region.wanted o (yielded l.toArray a.tmps) = wantF l φ o := by
      have hall : ∀ (k : Nat) (ok : Oper) (d : Nat), l[k]? = some ok → ok.dst = some d → d < n := fun k ok d hk hd => by
        have h1 := hB
        simp only [wellB, Bool.and_eq_true, List.all_eq_true] at h1
        have h2 := h1.1.1 ok (List.mem_of_getElem? hk)
        rw [hd] at h2
        simpa using h2
      unfold wantF Region.wanted
      cases o.guard with
      | none => rfl
      | some g =>
        obtain ⟨j, want⟩ := g
        have : yielded l.toArray a.tmps j = (match (l[j]?).bind (·.dst) with
          | some d => match φ d with
            | .bool b => some b
            | _ => none
          | none => none) := by
          unfold yielded
          rw [List.getElem?_toArray]
          cases hj : l[j]? with
          | none => rfl
          | some oj =>
            cases hd : oj.dst with
            | none => simp [hd]
            | some d =>
              have hlt2 : d < a.tmps.size := by rw [hF.2.1]; exact hall j oj d hj hd
              have h3 := hF.2.2 d
              simp only [Array.getD_eq_getD_getElem?, Array.getElem?_eq_getElem hlt2, Option.getD_some] at h3
              simp only [Option.bind_some, hd, Array.getElem?_eq_getElem hlt2, h3]
              cases φ d <;> rfl
        simp only [this]
    have next : ∀ v w', Good l F V R T i v w w' → K (a.put o.dst v) w' := fun v w' hg => hK _ _ (Inv.step hB hs hio hun hF htk hdc hdep h0 hv hvn hg)
    rw [hw]
    cases hwf : wantF l φ o with
    | false =>
      simp only [Bool.false_eq_true, if_false]
      exact next undef w (hok.2 hwf)
    | true =>
      simp only [if_true]
      have hok := hok.1 hwf
      unfold Oper.wp
      rw [hF.eval]
      generalize (execOp (ev φ) o).run P w = r at hok
      cases r with
      | ok x w' =>
        cases x <;> simp only [Oper.upon] <;> simp only at hok
        case value v => exact next v w' hok
        case skip => exact next undef w' hok
        case enter g args =>
          exact Calls.mono hok fun e w'' ⟨v, he, hg⟩ => by subst he; exact next v w'' hg
        all_goals exact hok.elim
      | halt x w' => exact hok.elim

theorem wpList_inv (hB : wellB l n = true) {Q : Exit → Act → World → Prop} (hstep : ∀ i o, l[i]? = some o → OpOk P l F V R T φ0 i o)
    (hend : ∀ φ a w, Fr n a φ → R w → (∀ t, isDst l t = false → φ t = φ0 t) → (∀ j o d, F j = true → l[j]? = some o → o.dst = some d → V j (φ d) w) → (∀ j o, F j = true → l[j]? = some o → o.dst = none → ∃ u, V j u w) → Q .normal a w) :
    ∀ (rest : List Oper) (k : Nat) (listed : Array Bool) (a : Act) (w : World), l.drop k = rest → listed.size = l.length → (∀ j, j < l.length → (listed.getD j true = true ↔ j < k)) → Inv l F V R T φ0 n listed a w → wpList P l.toArray Q rest a w
  | [], k, listed, a, w, hd, hs, hl, hI => by
    obtain ⟨φ, hF, hR, htk, hdc, h0, hv, hvn⟩ := hI
    have hall : ∀ j, j < l.length → listed.getD j true = true := fun j hj => (hl j hj).2 (by have := List.drop_eq_nil_iff.1 hd; omega)
    exact hend φ a w hF hR h0 (fun j o d hf hj hd => hv j o d hj hd (hall j (List.getElem?_eq_some_iff.1 hj).1) (.inl hf)) (fun j o hf hj hd => hvn j o hj hd (hall j (List.getElem?_eq_some_iff.1 hj).1) (.inl hf))
  | o :: rest, k, listed, a, w, hd, hs, hl, hI => by
    have hio : l[k]? = some o := by
      have := List.getElem?_drop (xs := l) (i := k) (j := 0)
      rw [hd] at this
      simpa using this.symm
    have hlt : k < l.length := (List.getElem?_eq_some_iff.1 hio).1
    have hun : listed.getD k true = false := by
      cases h : listed.getD k true with
      | false => rfl
      | true => exact absurd ((hl k hlt).1 h) (Nat.lt_irrefl k)
    have hdep : ∀ e ∈ o.after, Region.binds .any e = true → listed.getD e.on false = true := fun e he hb => by
      have h1 := hB
      simp only [wellB, Bool.and_eq_true, List.all_eq_true, List.mem_range] at h1
      have h2 := h1.2 k hlt
      rw [hio] at h2
      have h3 : e.on < k := by simpa [hb] using Array.all_eq_true_iff_forall_mem.1 h2 e he
      have h4 := (hl e.on (by omega)).2 h3
      have h5 : e.on < listed.size := by omega
      simpa [Array.getD_eq_getD_getElem?, h5] using h4
    have hdrop : l.drop (k + 1) = rest := by
      have : l.drop (k + 1) = (l.drop k).drop 1 := by rw [List.drop_drop]
      rw [this, hd]; rfl
    have h := inv_op (P := P) (Q := Q) (K := wpList P l.toArray Q rest) hB hstep hs hio hun hdep hI (fun a' w' hI' => wpList_inv hB hstep hend rest (k + 1) _ a' w' hdrop (by simpa using hs) (fun j hj => by
      by_cases e : j = k
      · subst e
        simp [Array.getD_eq_getD_getElem?, Array.getElem?_setIfInBounds, hs, hj]
      · rw [getD_set_ne true (Ne.symm e), hl j hj]
        omega) hI')
    unfold wpList
    split at h
    · rename_i hw
      rw [if_pos hw]
      exact .inl h
    · rename_i hw
      rw [if_neg hw]
      exact h
/-- The rule for a plain region. -/
theorem wp_region_plain {id : Nat} {Q : Exit → Act → World → Prop} {t0 : Array Value} {w : World} (l : List Oper) (F : Nat → Bool) (V : Nat → Value → World → Prop) (R : World → Prop) (T : Nat → World → Prop) (n : Nat) (hn : t0.size = n) (hB : wellB l n = true) (hR : R w) (hT : ∀ i, i < l.length → T i w)
    (hstep : ∀ i o, l[i]? = some o → OpOk P l F V R T (fun k => t0.getD k undef) i o)
    (hend : ∀ φ a w, Fr n a φ → R w → (∀ t, isDst l t = false → φ t = t0.getD t undef) → (∀ j o d, F j = true → l[j]? = some o → o.dst = some d → V j (φ d) w) → (∀ j o, F j = true → l[j]? = some o → o.dst = none → ∃ u, V j u w) → Q .normal a w) :
    (Code.region id l.toArray false).wp P Q ⟨t0, []⟩ w := by
  refine wp_region_lit (wpList_inv hB hstep hend l 0 (Array.replicate l.length false) _ _ rfl (by simp) (fun j hj => ?_) ⟨_, Fr.lit hn, hR, fun i hi _ => hT i hi, fun j oj hj hl => ?_, fun _ _ => rfl, fun j oj d hj _ hl => ?_, fun j oj hj _ hl => ?_⟩)
  · simp [Array.getD_eq_getD_getElem?, hj]
  · have : j < l.length := (List.getElem?_eq_some_iff.1 hj).1
    simp [Array.getD_eq_getD_getElem?, this] at hl
  · have : j < l.length := (List.getElem?_eq_some_iff.1 hj).1
    simp [Array.getD_eq_getD_getElem?, this] at hl
  · have : j < l.length := (List.getElem?_eq_some_iff.1 hj).1
    simp [Array.getD_eq_getD_getElem?, this] at hl
/-- The rule. -/
theorem wp_region_og {id : Nat} {Q : Exit → Act → World → Prop} {t0 : Array Value} {w : World} (l : List Oper) (F : Nat → Bool) (V : Nat → Value → World → Prop) (R : World → Prop) (T : Nat → World → Prop) (n : Nat) (hn : t0.size = n) (hm : P.follows .mixedOrders = true) (hB : wellB l n = true) (hR : R { w with drawn := w.drawn + 1 }) (hT : ∀ i, i < l.length → T i { w with drawn := w.drawn + 1 })
    (hstep : ∀ i o, l[i]? = some o → OpOk P l F V R T (fun k => t0.getD k undef) i o)
    (hend : ∀ φ a w, Fr n a φ → R w → (∀ t, isDst l t = false → φ t = t0.getD t undef) → (∀ j o d, F j = true → l[j]? = some o → o.dst = some d → V j (φ d) w) → (∀ j o, F j = true → l[j]? = some o → o.dst = none → ∃ u, V j u w) → Q .normal a w) :
    (Code.region id l.toArray true).wp P Q ⟨t0, []⟩ w := by
  refine wp_region_any hm (wpAny_inv hB hstep hend _ _ _ _ (by simp) (fun h i hi => ?_) ?_ ⟨_, Fr.lit hn, hR, fun i hi _ => hT i hi, fun j oj hj hl => ?_, fun _ _ => rfl, fun j oj d hj _ hl => ?_, fun j oj hj _ hl => ?_⟩)
  · simp at h; subst h; simp at hi
  · rw [List.countP_eq_length.2]
    · simp
    · intro j hj
      have : j < l.length := List.mem_range.1 hj
      simp [Array.getD_eq_getD_getElem?, this]
  · have : j < l.length := (List.getElem?_eq_some_iff.1 hj).1
    simp [Array.getD_eq_getD_getElem?, this] at hl
  · have : j < l.length := (List.getElem?_eq_some_iff.1 hj).1
    simp [Array.getD_eq_getD_getElem?, this] at hl
  · have : j < l.length := (List.getElem?_eq_some_iff.1 hj).1
    simp [Array.getD_eq_getD_getElem?, this] at hl
end
/-- What each slot holds: a value (cs), or what a writer tells of it (wr). -/
def Vt (cs : List Value) (wr : List (Nat × (Value → World → Prop))) (j : Nat) : Value → World → Prop := match wr.lookup j with
  | some p => p
  | none => fun u _ => u = cs.getD j undef
def AllOps (Q : Nat → Oper → Prop) : Nat → List Oper → Prop
  | _, [] => True
  | k, o :: r => Q k o ∧ AllOps Q (k + 1) r
theorem allOps_from {Q : Nat → Oper → Prop} : ∀ (l : List Oper) (k : Nat), AllOps Q k l → ∀ i o, l[i]? = some o → Q (k + i) o
  | [], _, _, i, o, h => by simp at h
  | x :: r, k, h, 0, o, hi => by simp only [List.getElem?_cons_zero, Option.some.injEq] at hi; subst hi; exact h.1
  | x :: r, k, h, i + 1, o, hi => by
    have := allOps_from r (k + 1) h.2 i o (by simpa using hi)
    rwa [show k + 1 + i = k + (i + 1) by omega] at this
theorem allOps {Q : Nat → Oper → Prop} {l : List Oper} (h : AllOps Q 0 l) : ∀ i o, l[i]? = some o → Q i o := fun i o hi => by
  have := allOps_from l 0 h i o hi
  rwa [Nat.zero_add] at this
section
variable {P : Program} {l : List Oper} {F : Nat → Bool} {cs : List Value} {wr : List (Nat × (Value → World → Prop))} {R : World → Prop} {T : Nat → World → Prop} {φ0 : Nat → Value} {i : Nat} {o : Oper}
/-- What an operation may lean on. -/
structure At (l : List Oper) (cs : List Value) (wr : List (Nat × (Value → World → Prop))) (R : World → Prop) (T : Nat → World → Prop) (φ0 : Nat → Value) (i : Nat) (o : Oper) (φ : Nat → Value) (w : World) : Prop where
  keep : R w
  tok : T i w
  old : ∀ t, isDst l t = false → φ t = φ0 t
  dep : ∀ e ∈ o.after, isData e = true → ∀ oj d, l[e.on]? = some oj → oj.dst = some d → Vt cs wr e.on (φ d) w
theorem At.of {φ : Nat → Value} {w : World} (h : At l cs wr R T φ0 i o φ w) (j : Nat) {oj : Oper} {d : Nat} (he : (⟨j, .data⟩ : Edge) ∈ o.after) (hj : l[j]? = some oj) (hd : oj.dst = some d) : Vt cs wr j (φ d) w := h.dep ⟨j, .data⟩ he rfl oj d hj hd
/-- An operation that is not under a guard, or whose guard is met. -/
def Wants (l : List Oper) (cs : List Value) (wr : List (Nat × (Value → World → Prop))) (R : World → Prop) (T : Nat → World → Prop) (φ0 : Nat → Value) (i : Nat) (o : Oper) (b : Bool) : Prop := ∀ φ w, At l cs wr R T φ0 i o φ w → wantF l φ o = b
theorem wants_free (hg : o.guard = none) : Wants l cs wr R T φ0 i o true := fun φ w _ => by simp [wantF, Region.wanted, hg]
/-- The guard's value is known. -/
theorem wants_of (j : Nat) (want b : Bool) {oj : Oper} {d : Nat} (hg : o.guard = some (j, want)) (he : (⟨j, .guard⟩ : Edge) ∈ o.after) (hj : l[j]? = some oj) (hd : oj.dst = some d) (hw : wr.lookup j = none) (hc : cs.getD j undef = .bool b) : Wants l cs wr R T φ0 i o (b == want) := fun φ w hA => by
  have h := hA.dep ⟨j, .guard⟩ he rfl oj d hj hd
  unfold Vt at h
  simp only [hw, hc] at h
  simp [wantF, Region.wanted, hg, hj, hd, h]
/-- The guard itself was passed over. -/
theorem wants_off (j : Nat) (want : Bool) {oj : Oper} {d : Nat} (hg : o.guard = some (j, want)) (he : (⟨j, .guard⟩ : Edge) ∈ o.after) (hj : l[j]? = some oj) (hd : oj.dst = some d) (hw : wr.lookup j = none) (hc : cs.getD j undef = undef) : Wants l cs wr R T φ0 i o false := fun φ w hA => by
  have h := hA.dep ⟨j, .guard⟩ he rfl oj d hj hd
  unfold Vt at h
  simp only [hw, hc] at h
  simp [wantF, Region.wanted, hg, hj, hd, h, undef]
theorem ok_pass (hq : Wants l cs wr R T φ0 i o false) (hi : wr.lookup i = none) (hc : cs.getD i undef = undef) : OpOk P l F (Vt cs wr) R T φ0 i o := by
  intro φ w hR hT h0 hd
  refine ⟨fun h => ?_, fun _ => ⟨hR, by unfold Vt; rw [hi]; exact hc.symm, fun _ _ h => h, fun _ _ _ h => h⟩⟩
  rw [hq φ w ⟨hR, hT, h0, hd⟩] at h
  cases h
theorem ok_val_g (c : Value) (hq : Wants l cs wr R T φ0 i o true) (hi : wr.lookup i = none) (hc : cs.getD i undef = c) (h : ∀ φ w, At l cs wr R T φ0 i o φ w → (execOp (ev φ) o).run P w = .ok (.value c) w) : OpOk P l F (Vt cs wr) R T φ0 i o := by
  intro φ w hR hT h0 hd
  refine ⟨fun _ => ?_, fun h' => by rw [hq φ w ⟨hR, hT, h0, hd⟩] at h'; cases h'⟩
  rw [h φ w ⟨hR, hT, h0, hd⟩]
  exact ⟨hR, by unfold Vt; rw [hi]; exact hc.symm, fun _ _ h => h, fun _ _ _ h => h⟩
theorem ok_val (c : Value) (hi : wr.lookup i = none) (hc : cs.getD i undef = c) (h : ∀ φ w, At l cs wr R T φ0 i o φ w → (execOp (ev φ) o).run P w = .ok (.value c) w) (hgd : o.guard = none := by rfl) : OpOk P l F (Vt cs wr) R T φ0 i o := by
  intro φ w hR hT h0 hd
  refine ⟨fun _ => ?_, fun h' => by rw [wants_free hgd φ w ⟨hR, hT, h0, hd⟩] at h'; cases h'⟩
  rw [h φ w ⟨hR, hT, h0, hd⟩]
  exact ⟨hR, by unfold Vt; rw [hi]; exact hc.symm, fun _ _ h => h, fun _ _ _ h => h⟩
/-- What the writers tell outlasts what only grows. -/
def Lasts (wr : List (Nat × (Value → World → Prop))) : Prop := ∀ x ∈ wr, ∀ u w w', x.2 u w → Below w.heap.size w w' → x.2 u w'
theorem vt_of {w w' : World} {S : Nat → Prop} (h : ∀ x ∈ wr, S x.1 → ∀ u, x.2 u w → x.2 u w') (j : Nat) (u : Value) (hS : S j) (hv : Vt cs wr j u w) : Vt cs wr j u w' := by
  unfold Vt at *
  cases hp : wr.lookup j with
  | none => rw [hp] at hv; exact hv
  | some p =>
    rw [hp] at hv
    have hm : (j, p) ∈ wr := by
      clear h hv
      induction wr with
      | nil => simp at hp
      | cons x r ih =>
        obtain ⟨k, q⟩ := x
        rw [List.lookup_cons] at hp
        by_cases e : (j == k) = true
        · rw [e] at hp
          simp only [Option.some.injEq] at hp
          have : j = k := by simpa using e
          subst this hp
          exact List.mem_cons_self ..
        · simp only [Bool.not_eq_true] at e
          rw [e] at hp
          exact List.mem_cons_of_mem _ (ih hp)
    exact h (j, p) hm hS u hv
theorem ok_call (c : Value) (f : FuncId) (args : Array Value) (hW : Lasts wr) (hRb : ∀ w w', R w → Below w.heap.size w w' → R w') (hTb : ∀ j w w', T j w → Below w.heap.size w w' → T j w') (hi : wr.lookup i = none) (hc : cs.getD i undef = c)
    (h : ∀ φ w, At l cs wr R T φ0 i o φ w → (execOp (ev φ) o).run P w = .ok (.enter f args) w ∧ Calls P f args w (fun e w' => e = .returned c ∧ Below w.heap.size w w')) (hgd : o.guard = none := by rfl) : OpOk P l F (Vt cs wr) R T φ0 i o := by
  intro φ w hR hT h0 hd
  refine ⟨fun _ => ?_, fun h' => by rw [wants_free hgd φ w ⟨hR, hT, h0, hd⟩] at h'; cases h'⟩
  obtain ⟨h1, h2⟩ := h φ w ⟨hR, hT, h0, hd⟩
  rw [h1]
  refine h2.mono fun e w' ⟨he, hb⟩ => ⟨c, he, hRb w w' hR hb, by unfold Vt; rw [hi]; exact hc.symm, fun j _ h => hTb j w w' h hb, fun j u _ hv => vt_of (S := fun _ => True) (fun x hx _ u hu => hW x hx u w w' hu hb) j u trivial hv⟩
/-- A call whose arguments hang on what writers yielded. -/
theorem ok_call_at (c : Value) (f : FuncId) (hW : Lasts wr) (hRb : ∀ w w', R w → Below w.heap.size w w' → R w') (hTb : ∀ j w w', T j w → Below w.heap.size w w' → T j w') (hi : wr.lookup i = none) (hc : cs.getD i undef = c)
    (h : ∀ φ w, At l cs wr R T φ0 i o φ w → ∃ args, (execOp (ev φ) o).run P w = .ok (.enter f args) w ∧ Calls P f args w (fun e w' => e = .returned c ∧ Below w.heap.size w w')) (hgd : o.guard = none := by rfl) : OpOk P l F (Vt cs wr) R T φ0 i o := by
  intro φ w hR hT h0 hd
  refine ⟨fun _ => ?_, fun h' => by rw [wants_free hgd φ w ⟨hR, hT, h0, hd⟩] at h'; cases h'⟩
  obtain ⟨args, h1, h2⟩ := h φ w ⟨hR, hT, h0, hd⟩
  rw [h1]
  refine h2.mono fun e w' ⟨he, hb⟩ => ⟨c, he, hRb w w' hR hb, by unfold Vt; rw [hi]; exact hc.symm, fun j _ h => hTb j w w' h hb, fun j u _ hv => vt_of (S := fun _ => True) (fun x hx _ u hu => hW x hx u w w' hu hb) j u trivial hv⟩
theorem ok_wval (p : Value → World → Prop) (hi : wr.lookup i = some p)
    (h : ∀ φ w, At l cs wr R T φ0 i o φ w → ∃ v w', (execOp (ev φ) o).run P w = .ok (.value v) w' ∧ R w' ∧ p v w' ∧ (∀ j, open_ l j i = true → T j w → T j w') ∧ ∀ x ∈ wr, need l F x.1 i = true → ∀ u, x.2 u w → x.2 u w') (hgd : o.guard = none := by rfl) : OpOk P l F (Vt cs wr) R T φ0 i o := by
  intro φ w hR hT h0 hd
  refine ⟨fun _ => ?_, fun h' => by rw [wants_free hgd φ w ⟨hR, hT, h0, hd⟩] at h'; cases h'⟩
  obtain ⟨v, w', h1, h2, h3, h5, h4⟩ := h φ w ⟨hR, hT, h0, hd⟩
  rw [h1]
  exact ⟨h2, by unfold Vt; rw [hi]; exact h3, h5, fun j u hn hv => vt_of (S := fun j => need l F j i = true) (fun x hx hs u hu => h4 x hx hs u hu) j u hn hv⟩
theorem ok_wcall (p : Value → World → Prop) (hi : wr.lookup i = some p)
    (h : ∀ φ w, At l cs wr R T φ0 i o φ w → ∃ f args, (execOp (ev φ) o).run P w = .ok (.enter f args) w ∧ Calls P f args w (fun e w' => ∃ v, e = .returned v ∧ R w' ∧ p v w' ∧ (∀ j, open_ l j i = true → T j w → T j w') ∧ ∀ x ∈ wr, need l F x.1 i = true → ∀ u, x.2 u w → x.2 u w')) (hgd : o.guard = none := by rfl) : OpOk P l F (Vt cs wr) R T φ0 i o := by
  intro φ w hR hT h0 hd
  refine ⟨fun _ => ?_, fun h' => by rw [wants_free hgd φ w ⟨hR, hT, h0, hd⟩] at h'; cases h'⟩
  obtain ⟨f, args, h1, h2⟩ := h φ w ⟨hR, hT, h0, hd⟩
  rw [h1]
  exact h2.mono fun e w' ⟨v, he, h3, h4, h6, h5⟩ => ⟨v, he, h3, by unfold Vt; rw [hi]; exact h4, h6, fun j u hn hv => vt_of (S := fun j => need l F j i = true) (fun x hx hs u hu => h5 x hx hs u hu) j u hn hv⟩
/-- The function is one of the program's. -/
def Enters (P : Program) (f : FuncId) : Prop := ∀ args w, (callFunc f args).run P w = .ok (.enter f args) w
/-- A call of a function value. -/
theorem exec_call {ρ : Operand → Value} {x : Operand} {xs : Array Operand} {ts : Array TypeId} {f : FuncId} (ho : o.op = .call { callee := .value x, args := xs, argTypes := ts }) (hf : Enters P f) (hx : ρ x = .func (.func f) #[] #[]) (w : World) :
    (execOp ρ o).run P w = .ok (.enter f (xs.map ρ)) w := by
  unfold execOp
  rw [ho]
  simp [resolve, invoke, hx, Deferred.ofValue, hf _ _]
theorem ok_call_fn (c : Value) (x : Operand) (xs : Array Operand) (ts : Array TypeId) (hW : Lasts wr) (hRb : ∀ w w', R w → Below w.heap.size w w' → R w') (hTb : ∀ j w w', T j w → Below w.heap.size w w' → T j w') (hi : wr.lookup i = none) (hc : cs.getD i undef = c)
    (ho : o.op = .call { callee := .value x, args := xs, argTypes := ts }) (h : ∀ φ w, At l cs wr R T φ0 i o φ w → ∃ f args, Enters P f ∧ ev φ x = .func (.func f) #[] #[] ∧ xs.map (ev φ) = args ∧ Calls P f args w (fun e w' => e = .returned c ∧ Below w.heap.size w w')) (hgd : o.guard = none := by rfl) : OpOk P l F (Vt cs wr) R T φ0 i o := by
  intro φ w hR hT h0 hd
  refine ⟨fun _ => ?_, fun h' => by rw [wants_free hgd φ w ⟨hR, hT, h0, hd⟩] at h'; cases h'⟩
  obtain ⟨f, args, hf, h1, h2, h3⟩ := h φ w ⟨hR, hT, h0, hd⟩
  rw [exec_call ho hf h1, h2]
  refine h3.mono fun e w' ⟨he, hb⟩ => ⟨c, he, hRb w w' hR hb, by unfold Vt; rw [hi]; exact hc.symm, fun j _ h => hTb j w w' h hb, fun j u _ hv => vt_of (S := fun _ => True) (fun x hx _ u hu => hW x hx u w w' hu hb) j u trivial hv⟩
theorem ok_wcall_fn (p : Value → World → Prop) (x : Operand) (xs : Array Operand) (ts : Array TypeId) (hi : wr.lookup i = some p) (ho : o.op = .call { callee := .value x, args := xs, argTypes := ts })
    (h : ∀ φ w, At l cs wr R T φ0 i o φ w → ∃ f args, Enters P f ∧ ev φ x = .func (.func f) #[] #[] ∧ xs.map (ev φ) = args ∧ Calls P f args w (fun e w' => ∃ v, e = .returned v ∧ R w' ∧ p v w' ∧ (∀ j, open_ l j i = true → T j w → T j w') ∧ ∀ x ∈ wr, need l F x.1 i = true → ∀ u, x.2 u w → x.2 u w')) (hgd : o.guard = none := by rfl) : OpOk P l F (Vt cs wr) R T φ0 i o :=
  ok_wcall p hi (hgd := hgd) fun φ w hA => by
    obtain ⟨f, args, hf, h1, h2, h3⟩ := h φ w hA
    exact ⟨f, args, by rw [exec_call ho hf h1, h2], h3⟩
/-- A call that makes memory of its own and leaves what was there. -/
theorem ok_gcall_fn (p : Value → World → Prop) (x : Operand) (xs : Array Operand) (ts : Array TypeId) (hW : Lasts wr) (hRb : ∀ w w', R w → Below w.heap.size w w' → R w') (hTb : ∀ j w w', T j w → Below w.heap.size w w' → T j w') (hi : wr.lookup i = some p) (ho : o.op = .call { callee := .value x, args := xs, argTypes := ts })
    (h : ∀ φ w, At l cs wr R T φ0 i o φ w → ∃ f args, Enters P f ∧ ev φ x = .func (.func f) #[] #[] ∧ xs.map (ev φ) = args ∧ Calls P f args w (fun e w' => ∃ v, e = .returned v ∧ p v w' ∧ Below w.heap.size w w')) (hgd : o.guard = none := by rfl) : OpOk P l F (Vt cs wr) R T φ0 i o :=
  ok_wcall_fn p x xs ts hi ho (hgd := hgd) fun φ w hA => by
    obtain ⟨f, args, hf, h1, h2, h3⟩ := h φ w hA
    exact ⟨f, args, hf, h1, h2, h3.mono fun e w' ⟨v, he, hp, hb⟩ => ⟨v, he, hRb w w' hA.keep hb, hp, fun j _ h => hTb j w w' h hb, fun x hx _ u hu => hW x hx u w w' hu hb⟩⟩
/-- A writer's value, passed on. -/
theorem ok_wpass (p : Value → World → Prop) (d : Nat) (hi : wr.lookup i = some p) (ho : o.op = .move (.tmp d) ∨ o.op = .assign (.tmp d)) (h : ∀ φ w, At l cs wr R T φ0 i o φ w → p (φ d) w) (hgd : o.guard = none := by rfl) : OpOk P l F (Vt cs wr) R T φ0 i o :=
  ok_wval p hi (hgd := hgd) fun φ w hA => by
    refine ⟨φ d, w, ?_, hA.keep, h φ w hA, fun _ _ h => h, fun _ _ _ _ h => h⟩
    unfold execOp
    rcases ho with ho | ho <;> rw [ho] <;> simp [ev]
/-- append at the operation. -/
theorem exec_append {ρ : Operand → Value} {s x : Operand} {t : TypeId} {w w' : World} {v : Value} (ho : o.op = .call { callee := .builtin .append, args := #[s, x], argTypes := #[t, t] }) (h : (Builtin.append_ #[t, t] o.type #[ρ s, ρ x]).run P w = .ok v w') :
    (execOp ρ o).run P w = .ok (.value v) w' := by
  unfold execOp
  simp only [ho, resolve, invoke, builtin, Sem.run_bind, Sem.run_pure, Result.andThen_ok, List.map_toArray, List.map_cons, List.map_nil, h]
theorem exec_index {ρ : Operand → Value} {x y : Operand} {t : TypeId} {w : World} {v : Value} (ho : o.op = .index t x y) (h : (Instr.index t (ρ x) (ρ y)).run P w = .ok v w) : (execOp ρ o).run P w = .ok (.value v) w := by
  unfold execOp
  simp [ho, h]
theorem exec_field {ρ : Operand → Value} {x : Operand} {t : TypeId} {k : Nat} {w : World} {v : Value} (ho : o.op = .field t x k) (h : (Instr.field t (ρ x) k).run P w = .ok v w) : (execOp ρ o).run P w = .ok (.value v) w := by
  unfold execOp
  simp [ho, h]
/-- A load at the operation. -/
theorem exec_load {ρ : Operand → Value} {x : Operand} {t : TypeId} {w : World} {v : Value} (ho : o.op = .load t x) (h : (Instr.loadAt t (ρ x)).run P w = .ok v w) : (execOp ρ o).run P w = .ok (.value v) w := by
  unfold execOp
  simp [ho, h]
/-- A writer that yields nothing (a store). -/
theorem ok_wskip (p : Value → World → Prop) (hi : wr.lookup i = some p)
    (h : ∀ φ w, At l cs wr R T φ0 i o φ w → ∃ w', (execOp (ev φ) o).run P w = .ok .skip w' ∧ R w' ∧ p undef w' ∧ (∀ j, open_ l j i = true → T j w → T j w') ∧ ∀ x ∈ wr, need l F x.1 i = true → ∀ u, x.2 u w → x.2 u w') (hgd : o.guard = none := by rfl) : OpOk P l F (Vt cs wr) R T φ0 i o := by
  intro φ w hR hT h0 hd
  refine ⟨fun _ => ?_, fun h' => by rw [wants_free hgd φ w ⟨hR, hT, h0, hd⟩] at h'; cases h'⟩
  obtain ⟨w', h1, h2, h3, h5, h4⟩ := h φ w ⟨hR, hT, h0, hd⟩
  rw [h1]
  exact ⟨h2, by unfold Vt; rw [hi]; exact h3, h5, fun j u hn hv => vt_of (S := fun j => need l F j i = true) (fun x hx hs u hu => h4 x hx hs u hu) j u hn hv⟩
end
/-! Plain regions, step by step, the frame a function. -/
section
variable {P : Program} {ops : Array Oper} {rest : List Oper} {o : Oper} {a : Act} {Q : Exit → Act → World → Prop} {n : Nat} {φ : Nat → Value} {w w' : World}
theorem st_start {l : List Oper} {t : Array Value} (hn : t.size = n) (h : ∀ a, Fr n a (fun k => t.getD k undef) → wpList P ops Q l a w) : wpList P ops Q l ⟨t, []⟩ w := h _ (Fr.lit hn)
theorem st_val {d : Nat} (v : Value) (hF : Fr n a φ) (hg : o.guard = none) (hd : o.dst = some d) (hn : d < n) (hr : (execOp (ev φ) o).run P w = .ok (.value v) w') (k : ∀ a', Fr n a' (upd φ d v) → wpList P ops Q rest a' w') : wpList P ops Q (o :: rest) a w := by
  refine wpList_plain hg fun K hK => ?_
  unfold Oper.wp
  rw [hF.eval, hr]
  show K (a.put o.dst v) w'
  rw [hd]
  exact hK _ _ (k _ (hF.put d v hn))
theorem st_same {d : Nat} (v : Value) (hF : Fr n a φ) (hg : o.guard = none) (hd : o.dst = some d) (hn : d < n) (hr : (execOp (ev φ) o).run P w = .ok (.value v) w) (k : ∀ a', Fr n a' (upd φ d v) → wpList P ops Q rest a' w) : wpList P ops Q (o :: rest) a w := st_val v hF hg hd hn hr k
theorem st_skip (hF : Fr n a φ) (hg : o.guard = none) (hd : o.dst = none) (hr : (execOp (ev φ) o).run P w = .ok .skip w') (k : ∀ a', Fr n a' φ → wpList P ops Q rest a' w') : wpList P ops Q (o :: rest) a w := by
  refine wpList_plain hg fun K hK => ?_
  unfold Oper.wp
  rw [hF.eval, hr]
  show K (a.put o.dst undef) w'
  rw [hd]
  exact hK _ _ (k _ hF)
theorem st_call {d : Nat} {f : FuncId} {args : Array Value} (hF : Fr n a φ) (hg : o.guard = none) (hd : o.dst = some d) (hn : d < n) (hr : (execOp (ev φ) o).run P w = .ok (.enter f args) w) (hc : Calls P f args w fun e w' => ∃ v, e = .returned v ∧ ∀ a', Fr n a' (upd φ d v) → wpList P ops Q rest a' w') : wpList P ops Q (o :: rest) a w := by
  refine wpList_plain hg fun K hK => ?_
  unfold Oper.wp
  rw [hF.eval, hr]
  refine Calls.mono hc fun e w' ⟨v, he, h⟩ => ?_
  subst he
  show K (a.put o.dst v) w'
  rw [hd]
  exact hK _ _ (h _ (hF.put d v hn))
end
end Og
end Go.Proofs.YtckbckdaffdjmaaDoor

/- Stores into a block: one cell or a range, by the block's cells. (From the texts of chapter 7.) -/
namespace Go.Proofs.YtckbckdaffdjmaaDoor
open Go.RowKit
set_option maxRecDepth 100000
set_option linter.unusedVariables false
set_option linter.unusedSimpArgs false

/-- The cells with others laid over from a place on. -/
def setAll : List Value → Nat → List Value → List Value
  | cs, _, [] => cs
  | cs, o, v :: r => setAll (cs.set o v) (o + 1) r
theorem setAll_length : ∀ (vs cs : List Value) (o : Nat), (setAll cs o vs).length = cs.length
  | [], _, _ => rfl
  | v :: r, cs, o => by rw [setAll, setAll_length r]; simp
theorem setAll_over : ∀ (vs a old z : List Value), old.length = vs.length → setAll (a ++ (old ++ z)) a.length vs = a ++ (vs ++ z)
  | [], a, old, z, h => by
    have : old = [] := List.eq_nil_of_length_eq_zero h
    subst this; rfl
  | v :: r, a, x :: old, z, h => by
    rw [setAll]
    have e : (a ++ (x :: old ++ z)).set a.length v = (a ++ [v]) ++ (old ++ z) := by simp
    have := setAll_over r (a ++ [v]) old z (by simpa using h)
    rw [List.length_append, List.length_singleton] at this
    rw [e, this]
    simp
section
variable {P : Program} {w : World} {b : Nat} {ty : TypeId}
theorem setCells_heap : ∀ (vs : List Value) (o : Nat) (w : World) (cs : List Value), w.heap[b]? = some (.cells cs.toArray ty (0, 0)) → (w.setCells b o vs).heap[b]? = some (.cells (setAll cs o vs).toArray ty (0, 0))
  | [], _, _, _, h => h
  | v :: r, o, w, cs, h => by
    rw [World.setCells, setAll]
    refine setCells_heap r (o + 1) _ _ ?_
    have hlt := heap_lt h
    have hv : w.heap[b] = .cells cs.toArray ty (0, 0) := (Array.getElem?_eq_some_iff.1 h).2
    unfold World.setCell
    rw [Array.getElem?_eq_getElem (by simpa using hlt), Array.getElem_modify]
    simp [hv]
theorem setCells_grown (w : World) (b o : Nat) (vs : List Value) : w.grownBy (w.setCells b o vs) (some b) := by
  have h := World.keptBut_setCells b (may := fun _ => True) vs o w (fun _ _ => trivial)
  refine ⟨World.os_setCells w b o vs, ?_, World.output_setCells w b o vs, ?_, fun k hk hne => World.heap_setCells_other w b o vs hk (fun e => hne (by rw [e]))⟩
  · clear h
    induction vs generalizing o w with
    | nil => rfl
    | cons v r ih => rw [World.setCells, ih]; rfl
  · clear h
    induction vs generalizing o w with
    | nil => exact Nat.le_refl _
    | cons v r ih =>
      rw [World.setCells]
      refine Nat.le_trans ?_ (ih _ _)
      unfold World.setCell
      simp
theorem run_storeAt_cells (o : Nat) (T : TypeId) (v : Value) (vs cs : List Value) (hv : v.cells = vs.toArray) (hk : w.heap[b]? = some (.cells cs.toArray ty (0, 0))) (hle : o + vs.length ≤ cs.length) (hi : (P.info? T).map (·.size) = some vs.length) (h1 : ∀ u ∈ vs, u.oneCell' = true) :
    (Instr.storeAt T (.pointer (some ⟨b, o, none⟩)) v).run P w = .ok () (w.setCells b o vs) := by
  have hcell : ∀ j, j < vs.length → (w.cell? ⟨b, o + j, none⟩).isSome = true := fun j hj => by
    rw [has_cell hk]; simp; omega
  have hfz : ∀ j, j < vs.length → w.frozen? ⟨b, o + j, none⟩ = false := fun j hj => by simp [World.frozen?, hk]
  have := run_storeCells_cells (P := P) b o vs 0 w (fun j hj => by simpa using hcell j hj) (fun j hj => by simpa using hfz j hj) h1
  cases hq : P.info? T with
  | none => simp [hq] at hi
  | some i =>
    have hs : vs.length = i.size := by simp [hq] at hi; omega
    simp only [Nat.add_zero] at this
    simp [Instr.storeAt, Instr.sureAddr, storeVar, sizeOf, typeInfo, hq, hv, hs, this]
theorem exec_store {ρ : Operand → Value} {op : Oper} {x y : Operand} {T : TypeId} {o : Nat} {vs cs : List Value} (ho : op.op = .store T x y) (hx : ρ x = .pointer (some ⟨b, o, none⟩)) (hv : (ρ y).cells = vs.toArray) (hk : w.heap[b]? = some (.cells cs.toArray ty (0, 0))) (hle : o + vs.length ≤ cs.length) (hi : (P.info? T).map (·.size) = some vs.length) (h1 : ∀ u ∈ vs, u.oneCell' = true) :
    (execOp ρ op).run P w = .ok .skip (w.setCells b o vs) := by
  unfold execOp
  rw [ho]
  simp only [hx]
  have := run_storeAt_cells (P := P) o T (ρ y) vs cs hv hk hle hi h1
  simp [this]
theorem wpList_store_cells {ops : Array Oper} {rest : List Oper} {op : Oper} {a : Act} {Q : Exit → Act → World → Prop} {x y : Operand} {T : TypeId} (b o : Nat) (vs cs : List Value) (hgd : op.guard = none) (ho : op.op = .store T x y) (hx : a.eval x = .pointer (some ⟨b, o, none⟩)) (hv : (a.eval y).cells = vs.toArray) (hk : w.heap[b]? = some (.cells cs.toArray ty (0, 0))) (hle : o + vs.length ≤ cs.length) (hi : (P.info? T).map (·.size) = some vs.length) (h1 : ∀ u ∈ vs, u.oneCell' = true)
    (h : wpList P ops Q rest (a.put op.dst undef) (w.setCells b o vs)) : wpList P ops Q (op :: rest) a w := by
  refine wpList_plain hgd fun K hK => ?_
  unfold Oper.wp
  rw [exec_store ho hx hv hk hle hi h1]
  exact hK _ _ h
end

end Go.Proofs.YtckbckdaffdjmaaDoor

/- keep, where it writes only at the end. -/
namespace Go.Proofs.YtckbckdaffdjmaaDoor
open Go.RowKit
set_option maxRecDepth 100000
set_option linter.unusedVariables false
set_option linter.unusedSimpArgs false

/-- One list more, kept as it came. -/
theorem Bk3.late_more {w w' : World} {b : Nat} {own : Nat → Nat} {v0 v2 v3 u2 u3 x y : Value} {K0 K2 K3 : List Value} {Ws : List (List UInt64)} {l : List UInt64}
    (h : Bk3 w b own true 0 v0 v2 v3 K0 K2 K3 Ws) (hx : ∀ g, x.ownBlock = some g → g < w.heap.size ∧ own g = 0)
    (hm : Mod (fun k => k = b ∨ v2.ownBlock = some k ∨ v3.ownBlock = some k) w w') (hblk : Rw w' b 31 [v0, .bool true, u2, u3]) (h2 : VU 0 w' u2 (K2 ++ [x])) (h3 : VU 0 w' u3 (K3 ++ [y]))
    (hxo : OU 0 w' x l) (hl : l.length + 80 ≤ 17592186044416) (hy : OU w.heap.size w' y l)
    (hb2 : u2.ownBlock = v2.ownBlock ∨ ∃ g, u2.ownBlock = some g ∧ w.heap.size ≤ g ∧ y.ownBlock ≠ some g)
    (hb3 : u3.ownBlock = v3.ownBlock ∨ ∃ g, u3.ownBlock = some g ∧ w.heap.size ≤ g ∧ y.ownBlock ≠ some g ∧ u2.ownBlock ≠ some g) :
    ∃ own', Bk3 w' b own' true 0 v0 u2 u3 K0 (K2 ++ [x]) (K3 ++ [y]) (Ws ++ [l]) ∧ (∀ k, k < w.heap.size → own' k = if x.ownBlock = some k then 10 + K2.length else own k) := by
  obtain ⟨f, hf⟩ : ∃ f : Nat → Nat, ∀ k, f k = if x.ownBlock = some k then 10 + K2.length else if u2.ownBlock = some k then 3 else if u3.ownBlock = some k then 4 else if y.ownBlock = some k then 8 else if k < w.heap.size then own k else 0 := ⟨_, fun _ => rfl⟩
  have hlow : ∀ k, k < w.heap.size → f k = if x.ownBlock = some k then 10 + K2.length else own k := fun k hk => by
    rw [hf]
    by_cases ex : x.ownBlock = some k
    · rw [if_pos ex, if_pos ex]
    rw [if_neg ex, if_neg ex]
    by_cases e2 : u2.ownBlock = some k
    · rw [if_pos e2]
      rcases hb2 with e | ⟨g, e, hg, _⟩
      · exact (h.t2 k (e ▸ e2)).symm
      · rw [e] at e2; injection e2 with e2; omega
    rw [if_neg e2]
    by_cases e3 : u3.ownBlock = some k
    · rw [if_pos e3]
      rcases hb3 with e | ⟨g, e, hg, _⟩
      · exact (h.t3 k (e ▸ e3)).symm
      · rw [e] at e3; injection e3 with e3; omega
    rw [if_neg e3, if_neg (fun e => by have := (hy.lt k e).1; omega), if_pos hk]
  have keepT : ∀ k t, k < w.heap.size → own k = t → t ≠ 0 → f k = t := fun k t hk ht h1 => by
    rw [hlow k hk, if_neg, ht]
    intro e
    have := (hx k e).2
    omega
  have nf : ∀ k, own k ≠ 0 → own k ≠ 1 → own k ≠ 3 → own k ≠ 4 → ¬ (k = b ∨ v2.ownBlock = some k ∨ v3.ownBlock = some k) := fun k a1 a2 a3 a4 e => by
    rcases e with e | e | e
    · exact a2 (by rw [e]; exact h.tb)
    · exact a3 (h.t2 k e)
    · exact a4 (h.t3 k e)
  refine ⟨f, ⟨hblk, ?_, h2, h3, ?_, ?_, ?_, ?_, h.even, ?_, by simp [h.l2], by simp [h.l3], ?_, ?_, ?_⟩, hlow⟩
  · exact h.r0.mod hm fun g e => nf g (by rw [h.t0 g e]; decide) (by rw [h.t0 g e]; decide) (by rw [h.t0 g e]; decide) (by rw [h.t0 g e]; decide)
  · exact keepT b 1 (heap_lt h.blk) h.tb (by decide)
  · intro g e; exact keepT g 2 (h.r0.lt g e).2 (h.t0 g e) (by decide)
  · intro g e
    rcases hb2 with e1 | ⟨g', e1, hg, hyg⟩
    · rw [e1] at e
      exact keepT g 3 (h.r2.lt g e).2 (h.t2 g e) (by decide)
    · rw [hf, if_neg, if_pos e]
      intro ex
      have := (hx g ex).1
      rw [e1] at e; injection e with e; omega
  · intro g e
    rcases hb3 with e1 | ⟨g', e1, hg, hyg, hug⟩
    · rw [e1] at e
      exact keepT g 4 (h.r3.lt g e).2 (h.t3 g e) (by decide)
    · have hgg : g' = g := by rw [e1] at e; injection e
      subst hgg
      rw [hf, if_neg, if_neg hug, if_pos e]
      intro ex
      have := (hx g' ex).1
      omega
  · intro i v hv
    obtain ⟨m, h1, h2⟩ := h.marked i v hv
    exact ⟨m, h1.mod hm (fun _ g e => nf g (by rw [(h2 g e).2]; decide) (by rw [(h2 g e).2]; decide) (by rw [(h2 g e).2]; decide) (by rw [(h2 g e).2]; decide)), fun g e => ⟨Nat.lt_of_lt_of_le (h2 g e).1 hm.size, keepT g 9 (h2 g e).1 (h2 g e).2 (by decide)⟩⟩
  · intro i v m hi hv hl'
    have hL := h.l2
    by_cases hi2 : i < K2.length
    · rw [List.getElem?_append_left hi2] at hv
      rw [List.getElem?_append_left (by omega)] at hl'
      obtain ⟨h1, h2, h3⟩ := h.raw i v m (by omega) hv hl'
      exact ⟨h1.mod hm (fun g e => nf g (by rw [h3 g e]; omega) (by rw [h3 g e]; omega) (by rw [h3 g e]; omega) (by rw [h3 g e]; omega)), h2, fun g e => keepT g (10 + i) (h1.lt g e).2 (h3 g e) (by omega)⟩
    · have hi3 : i = K2.length := by
        have := (List.getElem?_eq_some_iff.1 hv).1
        rw [List.length_append, List.length_singleton] at this
        omega
      subst hi3
      rw [List.getElem?_append_right (Nat.le_refl _), Nat.sub_self, List.getElem?_cons_zero] at hv
      rw [List.getElem?_append_right (by omega), show K2.length - Ws.length = 0 by omega, List.getElem?_cons_zero] at hl'
      injection hv with hv; injection hl' with hl'
      subst hv hl'
      exact ⟨hxo, hl, fun g e => by rw [hlow g (hx g e).1, if_pos e]⟩
  · intro i v m hi hv hl'
    have hL := h.l3
    by_cases hi2 : i < K3.length
    · rw [List.getElem?_append_left hi2] at hv
      rw [List.getElem?_append_left (by omega)] at hl'
      obtain ⟨h1, h2⟩ := h.was i v m (by omega) hv hl'
      exact ⟨h1.mod hm (fun _ g e => nf g (by rw [(h2 g e).2]; decide) (by rw [(h2 g e).2]; decide) (by rw [(h2 g e).2]; decide) (by rw [(h2 g e).2]; decide)), fun g e => ⟨Nat.lt_of_lt_of_le (h2 g e).1 hm.size, keepT g 8 (h2 g e).1 (h2 g e).2 (by decide)⟩⟩
    · have hi3 : i = K3.length := by
        have := (List.getElem?_eq_some_iff.1 hv).1
        rw [List.length_append, List.length_singleton] at this
        omega
      subst hi3
      rw [List.getElem?_append_right (Nat.le_refl _), Nat.sub_self, List.getElem?_cons_zero] at hv
      rw [List.getElem?_append_right (by omega), show K3.length - Ws.length = 0 by omega, List.getElem?_cons_zero] at hl'
      injection hv with hv; injection hl' with hl'
      subst hv hl'
      refine ⟨hy.ru, fun g e => ⟨(hy.lt g e).2, ?_⟩⟩
      have hyg := (hy.lt g e).1
      rw [hf, if_neg (fun ex => by have := (hx g ex).1; omega), if_neg, if_neg, if_pos e]
      · intro e3
        rcases hb3 with e1 | ⟨g', e1, hg, hyg', hug⟩
        · rw [e1] at e3; have := (h.r3.lt g e3).2; omega
        · rw [e1] at e3; injection e3 with e3; subst e3; exact hyg' e
      · intro e2
        rcases hb2 with e1 | ⟨g', e1, hg, hyg'⟩
        · rw [e1] at e2; have := (h.r2.lt g e2).2; omega
        · rw [e1] at e2; injection e2 with e2; subst e2; exact hyg' e
  · intro k hk
    have hs := hm.size
    rw [hf, if_neg (fun ex => by have := (hx k ex).1; omega), if_neg (fun e => by have := (h2.lt k e).2; omega), if_neg (fun e => by have := (h3.lt k e).2; omega), if_neg (fun e => by have := (hy.lt k e).2; omega), if_neg (by omega)]
end Go.Proofs.YtckbckdaffdjmaaDoor

/- keep, where it writes only at the end: the walk. -/
namespace Go.Proofs.YtckbckdaffdjmaaDoor
open Go.RowKit
set_option maxRecDepth 100000
set_option linter.unusedVariables false
set_option linter.unusedSimpArgs false

theorem build_noneU {ρ : Operand → Value} {o : Oper} (ho : o.op = .buildSlice 22 0 #[]) (w : World) : (execOp ρ o).run Tryd.prog w = .ok (.value (.slice (some ⟨w.heap.size, 0, none⟩) 0 0)) (w.alloc (.cells #[] 58)) := by
  unfold execOp
  rw [ho]
  kernel_rfl
theorem build_oneU {ρ : Operand → Value} {o : Oper} {x : Operand} {u : Value} (ho : o.op = .buildSlice 29 1 #[(0, x)]) (hx : ρ x = u) (hu : ∃ p n c, u = .slice p n c) (w : World) : (execOp ρ o).run Tryd.prog w = .ok (.value (.slice (some ⟨w.heap.size, 0, none⟩) 1 1)) (w.alloc (.cells #[u] 22)) := by
  obtain ⟨p, n, c, rfl⟩ := hu
  have h1 : (Instr.buildSlice 29 1 #[(0, .slice p n c)]).run Tryd.prog w = .ok (.slice (some ⟨w.heap.size, 0, none⟩) 1 1) (w.alloc (.cells #[.slice p n c] 22)) := by kernel_rfl
  unfold execOp
  rw [ho]
  simp [hx, h1]
/-- The drawn region of keep: what holds behind as many writers as the list is long. -/
def RLk (w0 : World) (v3 : Value) (K3 : List Value) (l : List UInt64) : List Value → World → Prop
  | [], w => Below w0.heap.size w0 w
  | [e], w => Below w0.heap.size w0 w ∧ OU w0.heap.size w e []
  | [e, y], w => Below w0.heap.size w0 w ∧ OU w0.heap.size w y l
  | [e, y, s], w => Below w0.heap.size w0 w ∧ OU w0.heap.size w y l ∧ ∃ a, s = .slice (some ⟨a, 0, none⟩) 1 1 ∧ a < w.heap.size ∧ w.cell? ⟨a, 0, none⟩ = some y
  | e :: y :: s :: u :: _, w => VU 0 w u (K3 ++ [y]) ∧ OU w0.heap.size w y l ∧ Mod (fun k => v3.ownBlock = some k) w0 w ∧ (u.ownBlock = v3.ownBlock ∨ ∃ g, u.ownBlock = some g ∧ w0.heap.size ≤ g ∧ y.ownBlock ≠ some g)
theorem RLk.mod {w0 w : World} {v3 : Value} {K3 : List Value} {l : List UInt64} {g : List Value} (h : RLk w0 v3 K3 l g w) : Mod (fun k => v3.ownBlock = some k) w0 w := by
  match g, h with
  | [], h => exact Mod.of_below h
  | [e], h => exact Mod.of_below h.1
  | [e, y], h => exact Mod.of_below h.1
  | [e, y, s], h => exact Mod.of_below h.1
  | e :: y :: s :: u :: _, h => exact h.2.2.1
set_option maxHeartbeats 8000000 in
theorem keep_late3 {w : World} {b : Nat} {own : Nat → Nat} {v0 v2 v3 : Value} {K0 K2 K3 : List Value} {Ws : List (List UInt64)} (hb : Bk3 w b own true 0 v0 v2 v3 K0 K2 K3 Ws) (hN : K2.length + 1 ≤ 5864062014805) {x : Value} {l : List UInt64} (hx : OU 0 w x l) (hl : l.length + 80 ≤ 17592186044416)
    (ht : ∀ g, x.ownBlock = some g → own g = 0) :
    Calls Tryd.prog 23 #[.pointer (some ⟨b, 0, none⟩), x] w fun e w' => e = .returned (.tuple #[]) ∧ ∃ own' u2 u3 y, Bk3 w' b own' true 0 v0 u2 u3 K0 (K2 ++ [x]) (K3 ++ [y]) (Ws ++ [l]) ∧ (∀ k, k < w.heap.size → own' k = if x.ownBlock = some k then 10 + K2.length else own k) ∧ Mod (fun k => k = b ∨ v2.ownBlock = some k ∨ v3.ownBlock = some k) w w' := by
  obtain ⟨p2, cp2, e2⟩ := hb.r2.form
  obtain ⟨p3, cp3, e3⟩ := hb.r3.form
  obtain ⟨q, c, hxe⟩ := hx.ru.form
  have hxb : ∀ g, x.ownBlock = some g → g < w.heap.size ∧ own g = 0 := fun g e => ⟨(hx.lt g e).2, ht g e⟩
  have lb := heap_lt hb.blk
  have c1 := hb.blk.cell (i := 1) rfl
  have c2 := hb.blk.cell (i := 2) rfl
  have hba := below_alloc1 w (.cells #[x] 22)
  have hra := hb.r2.mod (F := fun _ => False) (Mod.of_below hba) (fun _ _ => id)
  have HB := Lib.hid hb
  have HX := Lib.hid hx
  have HN := Lib.hid hN
  have HL := Lib.hid hl
  have HXB := Lib.hid hxb
  have HBA := Lib.hid hba
  have HRA := Lib.hid hra
  clear hb hx hN hl hxb ht hba hra
  obtain ⟨L, hL⟩ : ∃ L, L = l.length := ⟨_, rfl⟩
  rw [← hL] at hxe
  have HLL := Lib.hid hL
  clear hL
  subst hxe
  rw [e2] at c2
  go_enter Tryd.func23, Tryd.ntmps23
  go_upto_region 2 with (first
    | (at_builtin
       refine wpList_append_VU (v := v2) rfl (.tmp 16) (.tmp 18) rfl rfl w.heap.size e2.symm rfl HRA.out (cell_one _ _ _) rfl HN.out (Nat.zero_le _) ?_
       intro u2 w2 hu2 hg2 hat2
       have hblk2 : Rw w2 b 31 [v0, .bool true, v2, v3] := (HB.out.blk.below HBA.out).mod (F := fun k => v2.ownBlock = some k) (Mod.grown hg2 fun k e _ => e) (fun e => by have h1 := HB.out.t2 b e; rw [HB.out.tb] at h1; cases h1)
       have d2 := hblk2.cell (i := 2) rfl
       have f2 := hblk2.frozen 2
       have HU2 := Lib.hid hu2
       have HG2 := Lib.hid hg2
       have HA2 := Lib.hid hat2
       have HB2 := Lib.hid hblk2
       obtain ⟨pu2, cu2, eu2⟩ := hu2.form
       clear hu2 hg2 hat2 hblk2
       rw [List.length_append, List.length_singleton] at eu2
       have EU2 := Lib.hid eu2
       rw [eu2])
    | fail)
  rw [← EU2.out]
  obtain ⟨w3, hw3⟩ : ∃ w3, w3 = w2.setCell ⟨b, 2, none⟩ u2 := ⟨_, rfl⟩
  have hx1 : (w.alloc (.cells #[Value.slice q L c] 22)).heap.size = w.heap.size + 1 := by simp
  have hu2b : ∀ g, u2.ownBlock = some g → v2.ownBlock = some g ∨ w.heap.size < g := fun g e => by
    rcases HA2.out with e1 | e1
    · exact .inl (e1 ▸ e)
    · rw [e1, hx1] at e; injection e with e; exact .inr (by omega)
  have hu2n : ∀ g, u2.ownBlock = some g → g ≠ b := fun g e e' => by
    rcases hu2b g e with e1 | e1
    · have h1 := HB.out.t2 g e1; rw [e', HB.out.tb] at h1; cases h1
    · omega
  have hm3 : Mod (fun k => k = b ∨ v2.ownBlock = some k) w w3 := by
    rw [hw3]
    exact (Mod.of_below HBA.out).trans ((Mod.grown HG2.out fun k e _ => .inr e).trans (Mod.setCell _ _ _ _ (.inl rfl)))
  have hblk3 : Rw w3 b 31 [v0, .bool true, u2, v3] := by rw [hw3]; exact HB2.out.set 2 u2
  have hu3 : VU 0 w3 u2 (K2 ++ [Value.slice q L c]) := by rw [hw3]; exact HU2.out.mod (F := fun k => k = b) (Mod.setCell _ _ _ _ rfl) hu2n
  have hv3 : VU 0 w3 v3 K3 := HB.out.r3.mod hm3 (fun g e e' => by
    have h1 := HB.out.t3 g e
    rcases e' with e' | e'
    · rw [e', HB.out.tb] at h1; cases h1
    · rw [HB.out.t2 g e'] at h1; cases h1)
  have hxo3 : OU 0 w3 (Value.slice q L c) l := HX.out.mod hm3 (fun g e e' => by
    have h1 := (HXB.out g e).2
    rcases e' with e' | e'
    · rw [e', HB.out.tb] at h1; cases h1
    · rw [HB.out.t2 g e'] at h1; cases h1)
  have hv3b : ∀ g, v3.ownBlock = some g → g ≠ b ∧ g < w.heap.size ∧ u2.ownBlock ≠ some g ∧ (Value.slice q L c).ownBlock ≠ some g := fun g e => by
    have h1 := HB.out.t3 g e
    have h2 := (HB.out.r3.lt g e).2
    refine ⟨fun e' => ?_, h2, fun e' => ?_, fun e' => ?_⟩
    · rw [e', HB.out.tb] at h1; cases h1
    · rcases hu2b g e' with e1 | e1
      · rw [HB.out.t2 g e1] at h1; cases h1
      · omega
    · have := (HXB.out g e').2; omega
  rw [← hw3]
  have lb3 : b < w3.heap.size := Nat.lt_of_lt_of_le lb hm3.size
  have HM3 := Lib.hid hm3
  have HBK3 := Lib.hid hblk3
  have HU3 := Lib.hid hu3
  have HV3 := Lib.hid hv3
  have HXO3 := Lib.hid hxo3
  have HV3B := Lib.hid hv3b
  have HU2N := Lib.hid hu2n
  have HU2B := Lib.hid hu2b
  have HE3 := Lib.hid e3
  clear hm3 hblk3 hu3 hv3 hxo3 hv3b hu2n hu2b hx1 hw3 c1 c2 d2 f2
  have hcl : ∀ g w', RLk w3 v3 K3 l g w' → w'.cell? ⟨b, 3, none⟩ = some (.slice p3 K3.length cp3) := fun g w' h => by
    rw [← HE3.out]
    exact (HBK3.out.mod (RLk.mod h) (fun e => (HV3B.out b e).1 rfl)).cell (i := 3) rfl
  refine Ph.wp_region_P (RLk w3 v3 K3 l) (fun i => i == 5 || i == 7 || i == 8 || i == 9) 10 [0, 1, 2, 3, 4, 6, 5, 7, 8, 9] (by kernel_rfl) (by kernel_rfl) (Below.drew (Below.refl _ _)) ?_
  (repeat (first | (refine Ph.wpP_pass rfl rfl rfl ?_; (try simp only [List.getElem_toArray, List.getElem_cons_succ, List.getElem_cons_zero, Act.put, List.setIfInBounds_toArray, List.set_cons_succ, List.set_cons_zero])) | (apply Ph.wpP_val rfl rfl rfl; (focus (intro t w1 hR; have hc := hcl _ _ hR; (try simp only [List.getElem_toArray, List.getElem_cons_succ, List.getElem_cons_zero]); (try go_simp); (try exact Eq.refl _); done)); (try simp only [List.getElem_toArray, List.getElem_cons_succ, List.getElem_cons_zero, Act.put, List.setIfInBounds_toArray, List.set_cons_succ, List.set_cons_zero])) | (apply Ph.wpP_val_want rfl rfl rfl; (focus (intro t w1 hR; have hc := hcl _ _ hR; (try simp only [List.getElem_toArray, List.getElem_cons_succ, List.getElem_cons_zero]); (try go_simp); (try exact Eq.refl _); done)); (try simp only [List.getElem_toArray, List.getElem_cons_succ, List.getElem_cons_zero, Act.put, List.setIfInBounds_toArray, List.set_cons_succ, List.set_cons_zero]))))
  refine Ph.wpP_write rfl rfl rfl (fun w1 hR => ⟨_, _, build_noneU rfl w1, hR.alloc hR.size _, ?_⟩) ?_
  · exact OU.new w1 #[] [] rfl (by decide) hR.size
  rintro e w1' hR1
  clear hR1 w1'
  (try simp only [List.getElem_toArray, List.getElem_cons_succ, List.getElem_cons_zero, Act.put, List.setIfInBounds_toArray, List.set_cons_succ, List.set_cons_zero])
  refine Ph.wpP_write rfl rfl rfl (fun w1 hR => ?_) ?_
  · obtain ⟨hb1, he1⟩ := hR
    obtain ⟨y, w', hrun, hy, hg, hat⟩ := run_append_OU he1 (HXO3.out.ru.below hb1) (by have := HL.out; simp; omega) hb1.size
    exact ⟨y, w', Og.exec_append rfl hrun, hb1.grown hg hb1.size (fun k e => (he1.lt k e).1), by simpa using hy⟩
  rintro y w1' hR1
  clear hR1 w1'
  (try simp only [List.getElem_toArray, List.getElem_cons_succ, List.getElem_cons_zero, Act.put, List.setIfInBounds_toArray, List.set_cons_succ, List.set_cons_zero])
  refine Ph.wpP_write rfl rfl rfl (fun w1 hR => ?_) ?_
  · obtain ⟨hb1, hy1⟩ := hR
    have hba := below_alloc1 w1 (.cells #[y] 22)
    exact ⟨_, _, build_oneU (u := y) rfl rfl (by obtain ⟨p, c, e⟩ := hy1.ru.form; exact ⟨p, _, c, e⟩) w1, hb1.trans (hba.mono hb1.size), hy1.below hba, w1.heap.size, rfl, by simp, cell_one _ _ _⟩
  rintro s w1' hR1
  clear hR1 w1'
  (try simp only [List.getElem_toArray, List.getElem_cons_succ, List.getElem_cons_zero, Act.put, List.setIfInBounds_toArray, List.set_cons_succ, List.set_cons_zero])
  refine Ph.wpP_write rfl rfl rfl (fun w1 hR => ?_) ?_
  · obtain ⟨hb1, hy1, a, rfl, ha, hca⟩ := hR
    have hy1n : y.oneCell' = true := by obtain ⟨p, c, e⟩ := hy1.ru.form; rw [e]; rfl
    obtain ⟨u, w', hrun, hu, hg, hat⟩ := (HV3.out.mod (F := fun _ => False) (Mod.of_below hb1) (fun _ _ => id)).append hca hy1n (by have := HN.out; have := HB.out.l2; have := HB.out.l3; omega) (Nat.zero_le _)
    rw [HE3.out] at hrun
    refine ⟨u, w', Og.exec_append rfl hrun, hu, hy1.kept hg (fun g e e' => ?_), (Mod.of_below hb1).trans (Mod.grown hg fun k e _ => e), ?_⟩
    · have h1 := (hy1.lt g e).1
      have h2 := (HV3.out.lt g e').2
      omega
    · rcases hat with e | e
      · exact .inl e
      · refine .inr ⟨_, e, hb1.size, fun e' => ?_⟩
        have := (hy1.lt _ e').2
        omega
  rintro u w1' hR1
  clear hR1 w1'
  (try simp only [List.getElem_toArray, List.getElem_cons_succ, List.getElem_cons_zero, Act.put, List.setIfInBounds_toArray, List.set_cons_succ, List.set_cons_zero])
  refine Ph.wpP_nil ?_
  rintro w4 ⟨hu4, hy4, hm4, hat4⟩
  have hblk4 := HBK3.out.mod hm4 (fun e => (HV3B.out b e).1 rfl)
  have c4 := hblk4.cell (i := 3) rfl
  have f4 := hblk4.frozen 3
  obtain ⟨pu, cu, eu⟩ := hu4.form
  have lb4 : b < w4.heap.size := Nat.lt_of_lt_of_le lb3 hm4.size
  have HU4 := Lib.hid hu4
  have HY4 := Lib.hid hy4
  have HM4 := Lib.hid hm4
  have HA4 := Lib.hid hat4
  have HBK4 := Lib.hid hblk4
  obtain ⟨nu, hnu⟩ : ∃ nu, nu = (K3 ++ [y]).length := ⟨_, rfl⟩
  rw [← hnu] at eu
  have HEU := Lib.hid eu
  clear hu4 hy4 hm4 hat4 hblk4 hcl hnu
  rw [HE3.out] at c4
  rw [eu]
  clear eu
  go_wp2_with fail
  refine bodyPost_ret (results_none rfl _ _ _) rfl ?_
  rw [← HEU.out]
  have hb := HB.out
  obtain ⟨w5, hw5⟩ : ∃ w5, w5 = w4.setCell ⟨b, 3, none⟩ u := ⟨_, rfl⟩
  rw [← hw5]
  have hub : ∀ g, u.ownBlock = some g → v3.ownBlock = some g ∨ (w3.heap.size ≤ g ∧ y.ownBlock ≠ some g) := fun g e => by
    rcases HA4.out with e1 | ⟨g', e1, h1, h2⟩
    · exact .inl (e1 ▸ e)
    · rw [e1] at e; injection e with e; subst e; exact .inr ⟨h1, h2⟩
  have hs3 := HM3.out.size
  have hun : ∀ g, u.ownBlock = some g → g ≠ b := fun g e e' => by
    rcases hub g e with e1 | e1
    · exact (HV3B.out g e1).1 e'
    · have := e1.1; omega
  have hm35 : Mod (fun k => k = b ∨ v3.ownBlock = some k) w3 w5 := by
    rw [hw5]
    exact (HM4.out.mono fun _ _ e => .inr e).trans (Mod.setCell _ _ _ _ (.inl rfl))
  have hm45 : Mod (fun k => k = b) w4 w5 := by rw [hw5]; exact Mod.setCell _ _ _ _ rfl
  have hmw : Mod (fun k => k = b ∨ v2.ownBlock = some k ∨ v3.ownBlock = some k) w w5 :=
    (HM3.out.mono fun k _ e => e.elim .inl fun e => .inr (.inl e)).trans (hm35.mono fun k _ e => e.elim .inl fun e => .inr (.inr e))
  have hblk5 : Rw w5 b 31 [v0, .bool true, u2, u] := by rw [hw5]; exact HBK4.out.set 3 u
  have hu5 : VU 0 w5 u (K3 ++ [y]) := HU4.out.mod hm45 hun
  have hu25 : VU 0 w5 u2 (K2 ++ [Value.slice q L c]) := HU3.out.mod hm35 fun g e e' => by
    rcases e' with e' | e'
    · exact HU2N.out g e e'
    · exact (HV3B.out g e').2.2.1 e
  have hx5 : OU 0 w5 (Value.slice q L c) l := HXO3.out.mod hm35 fun g e e' => by
    rcases e' with e' | e'
    · have := (HXB.out g e).2; rw [e', hb.tb] at this; cases this
    · exact (HV3B.out g e').2.2.2 e
  have hyg : ∀ g, y.ownBlock = some g → w3.heap.size ≤ g := fun g e => (HY4.out.lt g e).1
  have hy5 : OU w.heap.size w5 y l := (HY4.out.more hs3).mod hm45 fun g e e' => by have := hyg g e; omega
  obtain ⟨own', h1, h2⟩ := hb.late_more HXB.out hmw hblk5 hu25 hu5 hx5 HL.out hy5 (by
      rcases HA2.out with e | e
      · exact .inl e
      · refine .inr ⟨_, e, HBA.out.size, fun e' => ?_⟩
        have h1 := hyg _ e'
        have h2 := (HU3.out.lt _ e).2
        omega) (by
      rcases HA4.out with e | ⟨g, e, h1, h2⟩
      · exact .inl e
      · refine .inr ⟨g, e, by omega, h2, fun e' => ?_⟩
        have := (HU3.out.lt _ e').2
        omega)
  exact ⟨rfl, own', u2, u, y, h1, h2, hmw⟩
/-- keep, late: as the Book from outside is told. -/
theorem keepC_late : KeepC true := by
  constructor
  intro w b N own x l h hx hl hf hN
  obtain ⟨ow, N0, N2, ⟨v0, v2, v3, K0, K2, K3, Ws, hb, hN0, hN2⟩, ho, hn, -, h0⟩ := h
  have h0' := h0 rfl
  subst hN0 hN2
  refine (keep_late3 hb (by omega) hx hl fun g e => ?_).mono ?_
  · have := hf g e
    rw [ho] at this
    exact Decidable.not_not.1 this
  · rintro e w' ⟨rfl, ow', u2, u3, y, hk, hlow, hm⟩
    refine ⟨rfl, fun k => ow' k ≠ 0, ⟨ow', K0.length, _, ⟨v0, u2, u3, K0, _, _, _, hk, rfl, rfl⟩, fun k => Iff.rfl, by simp; omega, fun e => (by cases e), fun _ => h0'⟩, fun k hkk => ?_, hm.mono fun k _ e => ?_⟩
    · show ow' k ≠ 0 ↔ _
      rw [hlow k hkk, ho]
      by_cases e : x.ownBlock = some k
      · simp [e]
      · simp [e]
    · left
      rw [ho]
      rcases e with e | e | e
      · rw [e, hb.tb]; decide
      · rw [hb.t2 k e]; decide
      · rw [hb.t3 k e]; decide
end Go.Proofs.YtckbckdaffdjmaaDoor

/- settled. -/
namespace Go.Proofs.YtckbckdaffdjmaaDoor
open Go.RowKit
set_option maxRecDepth 100000
set_option linter.unusedVariables false
set_option linter.unusedSimpArgs false

/-- What kept asks of the Book, from outside. -/
theorem Bk3.keptP {w : World} {b cur : Nat} {own : Nat → Nat} {late : Bool} {v0 v2 v3 : Value} {K0 K2 K3 : List Value} {Ws : List (List UInt64)} (h : Bk3 w b own late cur v0 v2 v3 K0 K2 K3 Ws) (hc : cur = 0) (h0 : K0.length ≤ 5864062014805) (h2 : K2.length ≤ 5864062014805) : KeptP w b late v0 v2 v3 K0 K2 K3 := by
  subst hc
  refine ⟨h.blk, h.r0, h.r2, h.r3, by rw [h.l2, h.l3], fun i v u hv hu => ?_, fun i v hv => ?_, h0, h2⟩
  · have hi := (List.getElem?_eq_some_iff.1 hv).1
    obtain ⟨l, hl⟩ : ∃ l, Ws[i]? = some l := ⟨_, List.getElem?_eq_getElem (by rw [← h.l2]; exact hi)⟩
    exact ⟨l, l, (h.raw i v l (Nat.zero_le _) hv hl).1.ru, (h.was i u l (Nat.zero_le _) hu hl).1, fun _ => rfl⟩
  · obtain ⟨n, h1, _⟩ := h.marked i v hv
    exact ⟨n, h1⟩
theorem Bok.kept {w : World} {b N : Nat} {own : Nat → Prop} {late : Bool} (h : Bok w b own late N) (hN : N ≤ 5864062014805) : Pur Tryd.prog 24 #[.pointer (some ⟨b, 0, none⟩)] w (.bool true) := by
  obtain ⟨ow, N0, N2, ⟨v0, v2, v3, K0, K2, K3, Ws, hb, hN0, hN2⟩, ho, hn, hl, h0⟩ := h
  exact kept_calls (hb.keptP rfl (by omega) (by omega))
/-- The Book, no longer late. -/
theorem Bk3.unlate {w : World} {b cur : Nat} {own : Nat → Nat} {late : Bool} {v0 v2 v3 : Value} {K0 K2 K3 : List Value} {Ws : List (List UInt64)} (h : Bk3 w b own late cur v0 v2 v3 K0 K2 K3 Ws) :
    Bk3 (w.setCell ⟨b, 1, none⟩ (.bool false)) b own false cur v0 v2 v3 K0 K2 K3 Ws := by
  have hm : Mod (fun k => k = b) w (w.setCell ⟨b, 1, none⟩ (.bool false)) := Mod.setCell _ _ _ _ rfl
  have nf : ∀ k, own k ≠ 1 → ¬ k = b := fun k a e => a (by rw [e]; exact h.tb)
  refine ⟨h.blk.set 1 (.bool false), h.r0.mod hm (fun g e => nf g (by rw [h.t0 g e]; decide)), h.r2.mod hm (fun g e => nf g (by rw [h.t2 g e]; decide)), h.r3.mod hm (fun g e => nf g (by rw [h.t3 g e]; decide)), h.tb, h.t0, h.t2, h.t3, h.even, fun i v hv => ?_, h.l2, h.l3, fun i v l hi hv hl => ?_, fun i v l hi hv hl => ?_, fun k hk => h.hi k (Nat.le_trans hm.size hk)⟩
  · obtain ⟨n, h1, h2⟩ := h.marked i v hv
    exact ⟨n, h1.mod hm (fun _ g e => nf g (by rw [(h2 g e).2]; decide)), fun g e => ⟨Nat.lt_of_lt_of_le (h2 g e).1 hm.size, (h2 g e).2⟩⟩
  · obtain ⟨h1, h2, h3⟩ := h.raw i v l hi hv hl
    exact ⟨h1.mod hm (fun g e => nf g (by rw [h3 g e]; omega)), h2, h3⟩
  · obtain ⟨h1, h2⟩ := h.was i v l hi hv hl
    exact ⟨h1.mod hm (fun _ g e => nf g (by rw [(h2 g e).2]; decide)), fun g e => ⟨Nat.lt_of_lt_of_le (h2 g e).1 hm.size, (h2 g e).2⟩⟩
/-- Behind i of the lists. -/
structure SetP (w w' : World) (b : Nat) (own : Nat → Nat) (v2 v3 : Value) (K2 K3 : List Value) (Ws : List (List UInt64)) (i : Nat) (own' : Nat → Nat) (v0 : Value) (K0 : List Value) : Prop where
  bk : Bk3 w' b own' false i v0 v2 v3 K0 K2 K3 Ws
  len : K0.length = 2 * i
  old : ∀ (j : Nat) (v : Value), j < i → K2[j]? = some v → ∃ l, RU w' v l ∧ ∀ g, v.ownBlock = some g → g < w'.heap.size ∧ own' g = 9
  was : ∀ (j : Nat) (u : Value), K3[j]? = some u → ∃ l, RU w' u l ∧ ∀ g, u.ownBlock = some g → g < w'.heap.size ∧ own' g = 8
  low : ∀ k, k < w.heap.size → own' k ≠ 0 → own k ≠ 0
  mod : Mod (fun k => own k ≠ 0) w w'
theorem SetP.next {w w' w1 : World} {b : Nat} {own own' own1 : Nat → Nat} {v0 v2 v3 u x y : Value} {K0 K2 K3 : List Value} {Ws : List (List UInt64)} {i : Nat} {l : List UInt64} (h : SetP w w' b own v2 v3 K2 K3 Ws i own' v0 K0) (hx : K2[i]? = some x) (hl : Ws[i]? = some l)
    (h1 : Bk3 w1 b own1 false (i + 1) u v2 v3 (K0 ++ [x, y]) K2 K3 Ws) (h2 : ∀ k, k < w'.heap.size → own1 k = if x.ownBlock = some k then 9 else own' k) (h3 : Mod (fun k => k = b ∨ v0.ownBlock = some k ∨ x.ownBlock = some k) w' w1) :
    SetP w w1 b own v2 v3 K2 K3 Ws (i + 1) own1 u (K0 ++ [x, y]) := by
  obtain ⟨hxo, hxl, hxt⟩ := h.bk.raw i x l (Nat.le_refl _) hx hl
  have nf : ∀ k t, own' k = t → t = 8 ∨ t = 9 → ¬ (k = b ∨ v0.ownBlock = some k ∨ x.ownBlock = some k) := fun k t hk ht e => by
    rcases e with e | e | e
    · rw [e, h.bk.tb] at hk; omega
    · rw [h.bk.t0 k e] at hk; omega
    · rw [hxt k e] at hk; omega
  refine ⟨h1, by rw [List.length_append, h.len]; simp; omega, fun j v hj hv => ?_, fun j v hv => ?_, fun k hk e => ?_, h.mod.on h3 fun k e => ?_⟩
  · rcases Nat.lt_or_ge j i with hji | hji
    · obtain ⟨m, a, c⟩ := h.old j v hji hv
      refine ⟨m, a.mod h3 (fun _ g e => nf g 9 (c g e).2 (.inr rfl)), fun g e => ⟨Nat.lt_of_lt_of_le (c g e).1 h3.size, ?_⟩⟩
      rw [h2 g (c g e).1]
      split
      · rfl
      · exact (c g e).2
    · have : j = i := by omega
      subst this
      rw [hx] at hv
      injection hv with hv
      subst hv
      obtain ⟨n, a, c⟩ := h1.marked (2 * j) x (by rw [← h.len, List.getElem?_append_right (Nat.le_refl _), Nat.sub_self]; rfl)
      exact ⟨_, a, c⟩
  · obtain ⟨m, a, c⟩ := h.was j v hv
    refine ⟨m, a.mod h3 (fun _ g e => nf g 8 (c g e).2 (.inl rfl)), fun g e => ⟨Nat.lt_of_lt_of_le (c g e).1 h3.size, ?_⟩⟩
    rw [h2 g (c g e).1, if_neg, (c g e).2]
    intro e'
    have := hxt g e'
    rw [(c g e).2] at this
    omega
  · have hkw := Nat.lt_of_lt_of_le hk h.mod.size
    refine h.low k hk ?_
    rw [h2 k hkw] at e
    split at e
    · rename_i e'
      rw [hxt k e']; omega
    · exact e
  · rcases Nat.lt_or_ge k w.heap.size with hk | hk
    · left
      refine h.low k hk ?_
      rcases e with e | e | e
      · rw [e, h.bk.tb]; decide
      · rw [h.bk.t0 k e]; decide
      · rw [hxt k e]; omega
    · exact .inr hk
set_option maxHeartbeats 8000000 in
theorem settled3 {w : World} {b : Nat} {own : Nat → Nat} {v0 v2 v3 : Value} {K2 K3 : List Value} {Ws : List (List UInt64)} (hb : Bk3 w b own true 0 v0 v2 v3 [] K2 K3 Ws) (hN : 2 * K2.length ≤ 5864062014805) :
    Calls Tryd.prog 97 #[.pointer (some ⟨b, 0, none⟩)] w fun e w' => e = .returned (.bool true) ∧ Mod (fun k => own k ≠ 0) w w' := by
  have hk := kept_calls (hb.keptP rfl (by simp) (by omega))
  have HK := Lib.hid hk
  have HB := Lib.hid hb
  have HN := Lib.hid hN
  have lb := heap_lt hb.blk
  obtain ⟨p2, cp2, e2⟩ := hb.r2.form
  obtain ⟨M, hM⟩ : ∃ M, M = K2.length := ⟨_, rfl⟩
  rw [← hM] at e2
  have HM := Lib.hid hM
  clear hk hb hN hM
  go_enter Tryd.func97, Tryd.ntmps97
  go_upto_region 2 with (first
    | (go_at_call 24
       refine HK.out.out.mono ?_
       clear HK
       rintro e w1 ⟨rfl, hb1⟩
       have hbk1 : Bk3 w1 b own true 0 v0 v2 v3 [] K2 K3 Ws := HB.out.mod (F := fun _ => False) (Mod.of_below hb1) (fun _ _ e => e.elim)
       have c1 := hbk1.blk.cell (i := 1) rfl
       have f1 := hbk1.blk.frozen 1
       have HB1 := Lib.hid hb1
       have HBK1 := Lib.hid hbk1
       clear hb1 hbk1)
    | fail)
  have hbk2 := HBK1.out.unlate
  obtain ⟨w2, hw2⟩ : ∃ w2, w2 = w1.setCell ⟨b, 1, none⟩ (.bool false) := ⟨_, rfl⟩
  have hm2 : Mod (fun k => own k ≠ 0) w w2 := (Mod.of_below HB1.out).trans (by rw [hw2]; exact Mod.setCell _ _ _ _ (by rw [HB.out.tb]; decide))
  rw [← hw2] at hbk2
  have hset : SetP w w2 b own v2 v3 K2 K3 Ws 0 own v0 [] := by
    refine ⟨hbk2, rfl, fun j v hj => absurd hj (Nat.not_lt_zero _), fun j u hu => ?_, fun k _ e => e, hm2⟩
    obtain ⟨l, hl⟩ : ∃ l, Ws[j]? = some l := ⟨_, List.getElem?_eq_getElem (by rw [← hbk2.l3]; exact (List.getElem?_eq_some_iff.1 hu).1)⟩
    obtain ⟨a, c⟩ := hbk2.was j u l (Nat.zero_le _) hu hl
    exact ⟨l, a, c⟩
  have HS := Lib.hid hset
  have HW2 := Lib.hid hw2
  clear hbk2 hm2 hset hw2
  have lb1 : b < w1.heap.size := Nat.lt_of_lt_of_le lb HB1.out.size
  go_upto_region 3 with fail
  rw [← HW2.out]
  clear c1 f1 HBK1 HW2 lb1 HB1
  go_wp2_with fail
  refine wp_loop_count (fun i a w' => Is (fun U => ⟨#[.pointer (some ⟨b, 0, none⟩), U 1, U 2, .bool true, .int .i64 i, U 5, U 6, U 7, U 8, U 9, U 10, U 11, U 12, U 13, U 14, U 15, U 16, U 17, U 18, U 19, U 20, U 21, U 22, U 23, U 24, U 25, U 26, U 27, U 28, U 29, U 30, U 31, U 32], []⟩) a ∧ ∃ own' v0' K0', SetP w w' b own v2 v3 K2 K3 Ws i own' v0' K0') M ⟨isU (fun U => ⟨#[.pointer (some ⟨b, 0, none⟩), U 1, U 2, .bool true, .int .i64 0, U 5, U 6, U 7, U 8, U 9, U 10, U 11, U 12, U 13, U 14, U 15, U 16, U 17, U 18, U 19, U 20, U 21, U 22, U 23, U 24, U 25, U 26, U 27, U 28, U 29, U 30, U 31, U 32], []⟩) rfl, own, v0, [], HS.out⟩ ?_ ?_
  · clear HS
    rintro i a w3 hi ⟨hU, own', v0', K0', hs⟩
    obtain ⟨U, rfl⟩ := hU.out
    have lb3 := heap_lt hs.bk.blk
    obtain ⟨x, hx⟩ : ∃ x, K2[i]? = some x := ⟨_, List.getElem?_eq_getElem (by rw [← HM.out]; exact hi)⟩
    obtain ⟨l, hl⟩ : ∃ l, Ws[i]? = some l := ⟨_, List.getElem?_eq_getElem (by rw [← hs.bk.l2, ← HM.out]; exact hi)⟩
    obtain ⟨hxo, hxl, hxt⟩ := hs.bk.raw i x l (Nat.le_refl _) hx hl
    have hcall := keep_now3 hs.bk (by have := hs.len; have := HN.out; have := HM.out; omega) hxo hxl (fun g e => .inr (hxt g e))
    obtain ⟨g2, k2, ee2, lg2, cg2⟩ := hs.bk.r2.get hx
    have c2 := hs.bk.blk.cell (i := 2) rfl
    rw [e2] at c2 ee2
    simp only [Value.slice.injEq] at ee2
    obtain ⟨rfl, -, rfl⟩ := ee2
    obtain ⟨px, cx, ex⟩ := hxo.ru.form
    obtain ⟨lx, hlx⟩ : ∃ lx, lx = l.length := ⟨_, rfl⟩
    rw [← hlx] at ex
    subst ex
    have HC := Lib.hid hcall
    have HSI := Lib.hid hs
    have HX := Lib.hid hx
    have HLL := Lib.hid hl
    have hi' : (i : Int) < (M : Int) := by exact_mod_cast hi
    have hi0 : (0 : Int) ≤ (i : Int) := Int.natCast_nonneg i
    have hi9 : (M : Int) ≤ 5864062014805 := by have := HM.out; have := HN.out; omega
    clear hU hs hx hl hxo hxl hxt hcall hlx
    go_wp2_with (first
      | (go_at_call 23
         refine HC.out.mono ?_
         rintro e w4 ⟨rfl, own1, u, y, h1, h2, h3⟩
         have HNX := Lib.hid (HSI.out.next HX.out HLL.out h1 h2 h3)
         clear h1 h2 h3)
      | fail)
    exact ⟨isU (fun U => ⟨#[.pointer (some ⟨b, 0, none⟩), U 1, U 2, .bool true, .int .i64 (i + 1 : Nat), U 5, U 6, U 7, U 8, U 9, U 10, U 11, U 12, U 13, U 14, U 15, U 16, U 17, U 18, U 19, U 20, U 21, U 22, U 23, U 24, U 25, U 26, U 27, U 28, U 29, U 30, U 31, U 32], []⟩) rfl, own1, u, _, HNX.out⟩
  · clear HS
    rintro a w3 ⟨hU, own', v0', K0', hs⟩
    obtain ⟨U, rfl⟩ := hU.out
    have lb3 := heap_lt hs.bk.blk
    have c2 := hs.bk.blk.cell (i := 2) rfl
    have hkp : KeptP w3 b false v0' v2 v3 K0' K2 K3 := by
      refine ⟨hs.bk.blk, hs.bk.r0, hs.bk.r2, hs.bk.r3, by rw [hs.bk.l2, hs.bk.l3], fun j v u hv hu => ?_, fun j v hv => ?_, by have := hs.len; have := HN.out; have := HM.out; omega, by have := HN.out; omega⟩
      · obtain ⟨l, a, _⟩ := hs.old j v (by rw [HM.out]; exact (List.getElem?_eq_some_iff.1 hv).1) hv
        obtain ⟨l', a', _⟩ := hs.was j u hu
        exact ⟨l, l', a, a', fun e => by cases e⟩
      · obtain ⟨n, h1, _⟩ := hs.bk.marked j v hv
        exact ⟨n, h1⟩
    have hk := kept_calls hkp
    have HK2 := Lib.hid hk
    have HMD := Lib.hid hs.mod
    rw [e2] at c2
    clear hU hs hkp hk
    go_wp2_with (first
      | (go_at_call 24
         refine HK2.out.out.mono ?_
         rintro e w4 ⟨rfl, hb4⟩
         have HB4 := Lib.hid hb4
         clear hb4)
      | fail)
    go_ret
    exact ⟨rfl, HMD.out.onB HB4.out⟩
/-- settled, of a late Book from outside. -/
theorem Bok.settled {w : World} {b N : Nat} {own : Nat → Prop} (h : Bok w b own true N) (hN : N ≤ 5864062014805) : Calls Tryd.prog 97 #[.pointer (some ⟨b, 0, none⟩)] w fun e w' => e = .returned (.bool true) ∧ Mod own w w' := by
  obtain ⟨ow, N0, N2, ⟨v0, v2, v3, K0, K2, K3, Ws, hb, hN0, hN2⟩, ho, hn, hl, h0⟩ := h
  have hK : K0 = [] := List.eq_nil_of_length_eq_zero (hN0.trans (h0 rfl))
  subst hK
  refine (settled3 hb (by omega)).mono fun e w' ⟨h1, h2⟩ => ⟨h1, h2.mono fun k _ e => (ho k).2 e⟩
end Go.Proofs.YtckbckdaffdjmaaDoor

/- Bytes in memory: a slice that reads as a list of bytes (RB); a row of the call's own that holds one (OB); append, slicing. -/
namespace Go.Proofs.YtckbckdaffdjmaaDoor
open Go.RowKit
set_option linter.unusedVariables false
set_option linter.unusedSimpArgs false

/-- A byte as a value. -/
abbrev bv (b : UInt8) : Value := .int .u8 (b.toNat : Int)

theorem bv_of_int (x : Nat) : bv (UInt8.ofNat x) = .int .u8 ((x : Int) % 256) := by
  show Value.int .u8 ((UInt8.ofNat x).toNat : Int) = _
  rw [UInt8.toNat_ofNat']; rfl
/-- v is a slice that reads as l. -/
def RB (w : World) (v : Value) (l : List UInt8) : Prop :=
  ∃ p c, v = .slice p l.length c ∧ l.length ≤ c ∧ c ≤ maxLen ∧ l.length ≤ 140737488355328 ∧
    ∀ i b, l[i]? = some b → ∃ g o, p = some ⟨g, o, none⟩ ∧ g < w.heap.size ∧ w.cell? ⟨g, o + i, none⟩ = some (bv b)
/-- v is a slice of a block of the call's own (from B on) that holds l at its head. -/
def OB (B : Nat) (w : World) (v : Value) (l : List UInt8) : Prop := w.ownsRow B 5 1 v l.length (l.map bv) ∧ l.length ≤ 140737488355328

section
variable {w w' : World} {B : Nat} {v : Value} {l m : List UInt8}
theorem RB.nil_ (w : World) : RB w (.slice none 0 0) [] := ⟨none, 0, rfl, Nat.le_refl _, Nat.zero_le _, Nat.zero_le _, fun i b h => by simp at h⟩
theorem RB.keep (h : RB w v l) (hs : w.heap.size ≤ w'.heap.size) (hk : l ≠ [] → ∀ g o, v.ownBlock = some g → g < w.heap.size → w'.cell? ⟨g, o, none⟩ = w.cell? ⟨g, o, none⟩) : RB w' v l := by
  obtain ⟨p, c, rfl, h1, h2, h3, hr⟩ := h
  refine ⟨p, c, rfl, h1, h2, h3, fun i b hb => ?_⟩
  obtain ⟨g, o, rfl, hg, hc⟩ := hr i b hb
  exact ⟨g, o, rfl, by omega, (hk (by intro e; subst e; simp at hb) g _ rfl hg).trans hc⟩
theorem RB.below (h : RB w v l) (hb : Below w.heap.size w w') : RB w' v l := h.keep hb.size fun _ g o _ hg => (bcell hb).1 g o hg
theorem RB.belowB (h : RB w v l) (hb : Below B w w') (hB : l ≠ [] → ∀ g, v.ownBlock = some g → g < B) : RB w' v l := h.keep hb.size fun hl g o e hg => (bcellB hb).1 g o (hB hl g e)
theorem RB.grown (h : RB w v l) {r : Option Nat} (hg : w.grownBy w' r) (hne : l ≠ [] → ∀ g, v.ownBlock = some g → r ≠ some g) : RB w' v l :=
  h.keep hg.size fun hl g o e hlt => World.cell?_of_block (hg.block g hlt (fun e' => hne hl g e e'.symm))
theorem RB.form (h : RB w v l) : ∃ p c, v = .slice p l.length c := by obtain ⟨p, c, e, _⟩ := h; exact ⟨p, c, e⟩
theorem RB.len (h : RB w v l) : l.length ≤ 140737488355328 := by obtain ⟨p, c, rfl, _, _, h3, _⟩ := h; exact h3
theorem RB.block (h : RB w v l) (hl : l ≠ []) : ∀ g, v.ownBlock = some g → g < w.heap.size := by
  obtain ⟨p, c, rfl, h1, h2, h3, hr⟩ := h
  intro g hg
  obtain ⟨b, r, rfl⟩ : ∃ b r, l = b :: r := by cases l with | nil => exact absurd rfl hl | cons b r => exact ⟨b, r, rfl⟩
  obtain ⟨g', o, rfl, hlt, _⟩ := hr 0 b rfl
  simp only [Value.ownBlock, Option.some.injEq] at hg
  omega

theorem OB.nil_ (B : Nat) (w : World) : OB B w (.slice none 0 0) [] := ⟨World.ownsRow_nil w B 5 1, Nat.zero_le _⟩
theorem OB.lt (h : OB B w v l) : ∀ k, v.ownBlock = some k → B ≤ k ∧ k < w.heap.size := h.1.lt
theorem OB.kept (h : OB B w v l) {r : Option Nat} (hg : w.grownBy w' r) (hne : ∀ g, v.ownBlock = some g → r ≠ some g) : OB B w' v l := by
  refine ⟨h.1.kept hg ?_, h.2⟩
  cases e : v.ownBlock with
  | none => exact .inl rfl
  | some g => exact .inr fun e' => hne g e e'.symm
theorem below_grown {r : Option Nat} (hb : Below w.heap.size w w') : w.grownBy w' r := ⟨hb.os, hb.tape, hb.output, hb.size, fun k hk _ => hb.block k hk⟩
theorem OB.below (h : OB B w v l) (hb : Below w.heap.size w w') : OB B w' v l := h.kept (r := none) (below_grown hb) (fun g _ e => by cases e)
theorem OB.more (h : OB B w v l) {B' : Nat} (hB : B' ≤ B) : OB B' w v l := by
  obtain ⟨⟨h0, h1 | ⟨g, cap, cur, rfl, hb, hg, r⟩⟩, hl⟩ := h
  · exact ⟨⟨h0, .inl h1⟩, hl⟩
  · exact ⟨⟨h0, .inr ⟨g, cap, cur, rfl, by omega, hg, r⟩⟩, hl⟩
theorem OB.rb (h : OB B w v l) : RB w v l := by
  obtain ⟨⟨h0, ⟨rfl, hn⟩ | ⟨g, cap, cur, rfl, hB, hg, hn, hc, hs, ht⟩⟩, hl⟩ := h
  · have : l = [] := List.eq_nil_of_length_eq_zero hn
    subst this
    exact RB.nil_ w
  · refine ⟨_, cap, rfl, hn, hc, hl, fun i b hb => ⟨g, 0, rfl, heap_lt hg, ?_⟩⟩
    have hi : i < l.length := (List.getElem?_eq_some_iff.1 hb).1
    have h1 : (cur.toList.take (l.length * 1))[i]? = some (bv b) := by rw [ht]; simp [hb]
    rw [List.getElem?_take, if_pos (by omega)] at h1
    simp only [World.cell?, hg]
    simpa using h1
theorem OB.form (h : OB B w v l) (hl : l ≠ []) : ∃ g cap, v = .slice (some ⟨g, 0, none⟩) l.length cap ∧ B ≤ g ∧ g < w.heap.size ∧ l.length ≤ cap ∧ cap ≤ maxLen ∧
    (∀ i b, l[i]? = some b → w.cell? ⟨g, i, none⟩ = some (bv b)) ∧ ∀ i, w.frozen? ⟨g, i, none⟩ = false := by
  have hr := h.rb
  obtain ⟨⟨h0, ⟨rfl, hn⟩ | ⟨g, cap, cur, rfl, hB, hg, hn, hc, hs, ht⟩⟩, hm⟩ := h
  · exact absurd (List.eq_nil_of_length_eq_zero hn) hl
  · refine ⟨g, cap, rfl, hB, heap_lt hg, hn, hc, fun i b hb => ?_, fun i => by simp [World.frozen?, hg]⟩
    obtain ⟨p, c, e, _, _, _, hcell⟩ := hr
    obtain ⟨g', o, e1, _, hx⟩ := hcell i b hb
    injection e with e2
    subst e2
    injection e1 with e1
    injection e1 with e3 e4
    subst e3 e4
    simpa using hx
/-- A part of it. -/
theorem RB.sub {g o c : Nat} (h : RB w (.slice (some ⟨g, o, none⟩) l.length c) l) (lo n c' : Nat) (hn : lo + n ≤ l.length) (hc : n ≤ c') (hm : c' ≤ maxLen) :
    RB w (.slice (some ⟨g, o + lo, none⟩) n c') ((l.drop lo).take n) := by
  obtain ⟨p, c1, e, h1, h2, h3, hr⟩ := h
  simp only [Value.slice.injEq] at e
  obtain ⟨e1, _, _⟩ := e
  subst e1
  have hl : ((l.drop lo).take n).length = n := by rw [List.length_take, List.length_drop]; omega
  refine ⟨_, c', by rw [hl], by rw [hl]; exact hc, hm, by rw [hl]; omega, fun i b hb => ?_⟩
  have hi : i < n := by have := (List.getElem?_eq_some_iff.1 hb).1; omega
  rw [List.getElem?_take, if_pos hi, List.getElem?_drop] at hb
  obtain ⟨g', o', e, hg, hcell⟩ := hr _ b hb
  simp only [Option.some.injEq, Addr.mk.injEq, and_true] at e
  obtain ⟨rfl, rfl⟩ := e
  exact ⟨g, o + lo, rfl, hg, by rw [Nat.add_assoc]; exact hcell⟩
theorem RB.front {g o c : Nat} (h : RB w (.slice (some ⟨g, o, none⟩) l.length c) l) (n c' : Nat) (hn : n ≤ l.length) (hc : n ≤ c') (hm : c' ≤ maxLen) :
    RB w (.slice (some ⟨g, o, none⟩) n c') (l.take n) := by
  have := h.sub 0 n c' (by omega) hc hm
  simpa using this
theorem RB.back {g o c : Nat} (h : RB w (.slice (some ⟨g, o, none⟩) l.length c) l) (lo c' : Nat) (hn : lo ≤ l.length) (hc : l.length - lo ≤ c') (hm : c' ≤ maxLen) :
    RB w (.slice (some ⟨g, o + lo, none⟩) (l.length - lo) c') (l.drop lo) := by
  have := h.sub lo (l.length - lo) c' (by omega) hc hm
  rwa [List.take_of_length_le (by rw [List.length_drop]; exact Nat.le_refl _)] at this
theorem cell_of_rb {g o n c : Nat} (h : RB w (.slice (some ⟨g, o, none⟩) n c) l) (i : Nat) (b : UInt8) (hb : l[i]? = some b) : w.cell? ⟨g, o + i, none⟩ = some (bv b) := by
  obtain ⟨p1, c1, e, h1, h2, h3, hr⟩ := h
  simp only [Value.slice.injEq] at e
  obtain ⟨e1, _, _⟩ := e
  subst e1
  obtain ⟨g', o', e, _, hc⟩ := hr i b hb
  simp only [Option.some.injEq, Addr.mk.injEq, and_true] at e
  obtain ⟨rfl, rfl⟩ := e
  exact hc
theorem RB.empty (w : World) (p : Option Addr) (c : Nat) (hm : c ≤ maxLen) : RB w (.slice p 0 c) [] := ⟨p, c, rfl, Nat.zero_le _, hm, Nat.zero_le _, fun i b h => by simp at h⟩
theorem RB.addr {p : Option Addr} {n c : Nat} (h : RB w (.slice p n c) l) (hl : l ≠ []) : ∃ g o, p = some ⟨g, o, none⟩ ∧ g < w.heap.size ∧ n = l.length ∧ n ≤ c ∧ c ≤ maxLen := by
  obtain ⟨p1, c1, e, h1, h2, h3, hr⟩ := h
  simp only [Value.slice.injEq] at e
  obtain ⟨rfl, rfl, rfl⟩ := e
  obtain ⟨b, r, rfl⟩ : ∃ b r, l = b :: r := by cases l with | nil => exact absurd rfl hl | cons b r => exact ⟨b, r, rfl⟩
  obtain ⟨g, o, rfl, hg, _⟩ := hr 0 b rfl
  exact ⟨g, o, rfl, hg, rfl, h1, h2⟩
/-- A block that was just laid. -/
theorem OB.new (w : World) (cs : Array Value) (l : List UInt8) (hc : cs = (l.map bv).toArray) (hl : l.length ≤ 140737488355328) (hB : B ≤ w.heap.size) :
    OB B (w.alloc (.cells cs 5)) (.slice (some ⟨w.heap.size, 0, none⟩) l.length l.length) l := by
  subst hc
  refine ⟨?_, hl⟩
  have := World.ownsRow_lit (e := 5) (size := 1) (base := B) w (l.map bv).toArray l.length hB (by simp only [maxLen]; omega) (by simp)
  simpa using this
theorem RB.wb (h : RB w v l) {b : Nat} (hne : l ≠ [] → v.ownBlock ≠ some b) (c : Array Value) (t : TypeId) : RB (w.wb b c t) v l :=
  h.keep (by simp) fun hl g o e _ => World.cell?_of_block (heap_wb_ne (fun e' => hne hl (by rw [e, e'])))
theorem OB.wb (h : OB B w v l) {b : Nat} (hne : v.ownBlock ≠ some b) (c : Array Value) (t : TypeId) : OB B (w.wb b c t) v l := by
  obtain ⟨⟨h0, h1 | ⟨g, cap, cur, rfl, hB, hg, r⟩⟩, hl⟩ := h
  · exact ⟨⟨h0, .inl h1⟩, hl⟩
  · exact ⟨⟨h0, .inr ⟨g, cap, cur, rfl, hB, (heap_wb_ne (fun e' => hne (by rw [e']; rfl))).trans hg, r⟩⟩, hl⟩
theorem OB.at_ (h : OB B w v l) (he : ∀ g, v.ownBlock = some g → w'.heap[g]? = w.heap[g]?) : OB B w' v l := by
  obtain ⟨⟨h0, h1 | ⟨g, cap, cur, rfl, hB, hg, r⟩⟩, hl⟩ := h
  · exact ⟨⟨h0, .inl h1⟩, hl⟩
  · exact ⟨⟨h0, .inr ⟨g, cap, cur, rfl, hB, (he g rfl).trans hg, r⟩⟩, hl⟩
theorem RB.lit (w : World) (cs : Array Value) (l : List UInt8) (n : Nat) (hc : cs = (l.map bv).toArray) (hn : n = l.length) (hl : l.length ≤ 140737488355328) :
    RB (w.alloc (.cells cs 5)) (.slice (some ⟨w.heap.size, 0, none⟩) n n) l := by
  subst hn
  exact (OB.new w cs l hc hl (Nat.le_refl _)).rb
end

theorem by_ti : (Tryd.prog.info? 5).map (fun i => (i.zero, i.size, i.bytes)) = some (some (.int .u8 0), 1, 1) := by kernel_rfl
theorem by_tu : Tryd.prog.underlying 74 = some (.slice 5) := by kernel_rfl
theorem by_info : ∃ i, Tryd.prog.info? 5 = some i ∧ i.zero = some (.int .u8 0) ∧ i.size = 1 ∧ i.bytes = 1 := by
  have h := by_ti
  cases hi : Tryd.prog.info? 5 with
  | none => rw [hi] at h; cases h
  | some i =>
    rw [hi] at h
    simp only [Option.map_some, Option.some.injEq, Prod.mk.injEq] at h
    exact ⟨i, rfl, h⟩

@[go_sem] theorem eql_bytes_nil (w : World) (a : Option Addr) (n c : Nat) : (binOp .eql 74 (.slice a n c) (.slice none 0 0)).run Tryd.prog w = .ok (.bool a.isNone) w := Lib.run_eql_slice_nil w _ _ a n c 0 0 by_tu

set_option maxRecDepth 100000 in
theorem run_append_nothing (w : World) {B : Nat} {v : Value} {l : List UInt8} (h : OB B w v l) (p : Option Addr) (c : Nat) :
    (Builtin.append_ #[74, 74] 74 #[v, .slice p 0 c]).run Tryd.prog w = .ok v w := by
  obtain ⟨i, hi, hz⟩ := by_info
  obtain ⟨⟨h0, ⟨rfl, hn⟩ | ⟨g, cap, cur, rfl, hB, hg, hn, hc, hs, ht⟩⟩, hl⟩ := h
  · cases p <;> simp [Builtin.append_, run_underlying by_tu, sizeOf, typeInfo, hi, Builtin.lenOf, Builtin.firstCells, loadCells, loadCellsFrom]
  · cases p <;> simp [Builtin.append_, run_underlying by_tu, sizeOf, typeInfo, hi, Builtin.lenOf, Builtin.firstCells, loadCells, loadCellsFrom, hn, storeCells]

set_option maxRecDepth 100000 in
/-- append to a row of the call's own. -/
theorem run_append_OB {w : World} {B : Nat} {v x : Value} {l m : List UInt8} (h : OB B w v l) (hr : RB w x m) (hlen : l.length + m.length ≤ 140737488355328) (hB : B ≤ w.heap.size) :
    ∃ v' w', (Builtin.append_ #[74, 74] 74 #[v, x]).run Tryd.prog w = .ok v' w' ∧ OB B w' v' (l ++ m) ∧ w.grownBy w' v.ownBlock ∧ (v'.ownBlock = v.ownBlock ∨ v'.ownBlock = some w.heap.size) := by
  obtain ⟨i, hi, hz⟩ := by_info
  obtain ⟨p, c, rfl, h1, h2, h3, hc⟩ := hr
  by_cases hm : m = []
  · subst hm
    exact ⟨v, w, run_append_nothing w h p c, by simpa using h, World.grownBy.refl w _, .inl rfl⟩
  · obtain ⟨b, r, rfl⟩ : ∃ b r, m = b :: r := by cases m with | nil => exact absurd rfl hm | cons b r => exact ⟨b, r, rfl⟩
    obtain ⟨g, o, rfl, hg, _⟩ := hc 0 b rfl
    obtain ⟨v', w', hrun, ho, hgr, _, hat⟩ := run_append_own_at (P := Tryd.prog) w B 74 74 5 i (.int .u8 0) 1 1 by_tu hi hz.1 hz.2.1 hz.2.2 rfl (by decide) v l.length (l.map bv) h.1 ⟨g, o, none⟩ (b :: r).length c ((b :: r).map bv) (by simp)
      (fun j u hj => by
        rw [List.getElem?_map] at hj
        cases hb : (b :: r)[j]? with
        | none => rw [hb] at hj; cases hj
        | some b' =>
          rw [hb] at hj
          cases hj
          obtain ⟨g', o', e, _, hcell⟩ := hc j b' hb
          injection e with e
          injection e with e1 e2
          subst e1 e2
          rw [add_flat]
          exact hcell)
      (fun u hu => by
        obtain ⟨b', _, rfl⟩ := List.mem_map.1 hu
        rfl) (by simp only [maxLen]; omega) (by omega) hB
    refine ⟨v', w', hrun, ⟨?_, by simpa using hlen⟩, hgr, hat⟩
    rw [List.length_append, List.map_append]
    exact ho

set_option maxRecDepth 100000 in
/-- append at the operation. -/
theorem wpList_append_OB {w : World} {ops : Array Oper} {rest : List Oper} {o : Oper} {a : Act} {Q : Exit → Act → World → Prop} (hgd : o.guard = none) (s x : Operand)
    (ho : o.op = .call { callee := .builtin .append, args := #[s, x], argTypes := #[74, 74] }) (hty : o.type = 74) {B : Nat} {v xv : Value} {l m : List UInt8}
    (hs : a.eval s = v) (hx : a.eval x = xv) (h : OB B w v l) (hr : RB w xv m) (hlen : l.length + m.length ≤ 140737488355328) (hB : B ≤ w.heap.size)
    (hk : ∀ v' w', OB B w' v' (l ++ m) → w.grownBy w' v.ownBlock → (v'.ownBlock = v.ownBlock ∨ v'.ownBlock = some w.heap.size) → wpList Tryd.prog ops Q rest (a.put o.dst v') w') : wpList Tryd.prog ops Q (o :: rest) a w := by
  refine wpList_plain hgd fun K hK => ?_
  obtain ⟨v', w', hrun, h2, h3, h4⟩ := run_append_OB h hr hlen hB
  unfold Oper.wp execOp
  simp only [ho, hty, resolve, invoke, builtin, Sem.run_bind, Sem.run_pure, Result.andThen_ok, List.map_toArray, List.map_cons, List.map_nil, hs, hx, hrun]
  exact hK _ _ (hk v' w' h2 h3 h4)
end Go.Proofs.YtckbckdaffdjmaaDoor

/- The cells of an argument, leaf by leaf, with the bound of what its slices weigh; slices of bytes among them. -/
namespace Go.Proofs.YtckbckdaffdjmaaDoor
open Go.ChangeShapes Go.WideShapes Go.ChangeAt Go.RowKit
set_option maxRecDepth 100000
set_option linter.unusedVariables false
set_option linter.unusedSimpArgs false

section
variable {H : Type} {enc : TypeId × Value → H} {P : Program} {w : World} {base : Nat} {spare : Nat → Bool} {held : Bool} {R : Nat}

/-- A cell is what its leaf says; its slices weigh at most R. -/
def LeafW (enc : TypeId × Value → H) (P : Program) (w : World) (base : Nat) (spare : Nat → Bool) (held : Bool) (R : Nat) : Leaf → Value → Prop
  | .int k, v => ∃ n, v = .int k n ∧ (Lit.int k n).wf = true
  | .bool, v => ∃ b, v = .bool b
  | .str, v => ∃ s, v = .string s ∧ s.size ≤ maxLen
  | .other t, v => ∃ fuel x, DataW.trod enc P w base spare held fuel t [v] = some x ∧ ∀ n ∈ x.1.weights P t, n ≤ R

inductive LeavesW (enc : TypeId × Value → H) (P : Program) (w : World) (base : Nat) (spare : Nat → Bool) (held : Bool) (R : Nat) : List Leaf → List Value → Prop
  | nil : LeavesW enc P w base spare held R [] []
  | cons {l : Leaf} {v : Value} {ls : List Leaf} {vs : List Value} : LeafW enc P w base spare held R l v → LeavesW enc P w base spare held R ls vs → LeavesW enc P w base spare held R (l :: ls) (v :: vs)

theorem LeavesW.append {a b : List Leaf} {u v : List Value} (h : LeavesW enc P w base spare held R a u) (k : LeavesW enc P w base spare held R b v) : LeavesW enc P w base spare held R (a ++ b) (u ++ v) := by
  induction h with
  | nil => exact k
  | cons h1 _ ih => exact .cons h1 ih
theorem LeavesW.uncons {l : Leaf} {ls : List Leaf} {cs : List Value} (h : LeavesW enc P w base spare held R (l :: ls) cs) : ∃ v vs, cs = v :: vs ∧ LeafW enc P w base spare held R l v ∧ LeavesW enc P w base spare held R ls vs := by
  cases h with
  | cons a b => exact ⟨_, _, rfl, a, b⟩
theorem LeavesW.unnil {cs : List Value} (h : LeavesW enc P w base spare held R [] cs) : cs = [] := by cases h; rfl
theorem LeavesW.int {k : IntKind} {ls : List Leaf} {cs : List Value} (h : LeavesW enc P w base spare held R (.int k :: ls) cs) : ∃ n vs, cs = .int k n :: vs ∧ (Lit.int k n).wf = true ∧ LeavesW enc P w base spare held R ls vs := by
  obtain ⟨v, vs, rfl, ⟨n, rfl, hn⟩, r⟩ := h.uncons
  exact ⟨n, vs, rfl, hn, r⟩
theorem LeavesW.bool {ls : List Leaf} {cs : List Value} (h : LeavesW enc P w base spare held R (.bool :: ls) cs) : ∃ b vs, cs = .bool b :: vs ∧ LeavesW enc P w base spare held R ls vs := by
  obtain ⟨v, vs, rfl, ⟨n, rfl⟩, r⟩ := h.uncons
  exact ⟨n, vs, rfl, r⟩
theorem LeavesW.other {t : TypeId} {ls : List Leaf} {cs : List Value} (h : LeavesW enc P w base spare held R (.other t :: ls) cs) : ∃ v vs, cs = v :: vs ∧ (∃ fuel x, DataW.trod enc P w base spare held fuel t [v] = some x ∧ ∀ n ∈ x.1.weights P t, n ≤ R) ∧ LeavesW enc P w base spare held R ls vs := by
  obtain ⟨v, vs, rfl, hv, r⟩ := h.uncons
  exact ⟨v, vs, rfl, hv, r⟩

theorem weights_mem_all {e : TypeId} : ∀ {ds : List (DataW H)} {j : Nat} {d : DataW H}, ds[j]? = some d → ∀ n ∈ d.weights P e, n ∈ DataW.weightsAll P e ds
  | d0 :: ds, 0, d, hd, n, hn => by
    simp only [List.getElem?_cons_zero, Option.some.injEq] at hd
    subst hd
    simp only [DataW.weightsAll, List.mem_append]
    exact Or.inl hn
  | d0 :: ds, j + 1, d, hd, n, hn => by
    simp only [List.getElem?_cons_succ] at hd
    simp only [DataW.weightsAll, List.mem_append]
    exact Or.inr (weights_mem_all hd n hn)
  | [], _, _, hd, _, _ => by simp at hd

mutual
theorem leaves_okW : ∀ (n : Nat) (t : TypeId) (ls : List Leaf) (fuel : Nat) (cs : List Value) (x : DataW H × List MemPlace), leaves P n t = some ls →
    DataW.trod enc P w base spare held fuel t cs = some x → (∀ n ∈ x.1.weights P t, n ≤ R) → LeavesW enc P w base spare held R ls cs
  | 0, _, _, _, _, _, h, _, _ => by simp [leaves] at h
  | n + 1, t, ls, fuel, cs, x, h, ht, hw => by
    unfold leaves at h
    split at h
    · rename_i hu
      cases h
      obtain ⟨b, rfl, _⟩ := DataW.trod_bool hu ht
      exact .cons ⟨b, rfl⟩ .nil
    · rename_i k hu
      cases h
      obtain ⟨m, rfl, _, hwf⟩ := DataW.trod_int hu ht
      exact .cons ⟨m, rfl, hwf⟩ .nil
    · rename_i hu
      cases h
      obtain ⟨s, rfl, _, hwf⟩ := DataW.trod_string hu ht
      exact .cons ⟨s, rfl, hwf⟩ .nil
    · rename_i fs hu
      split at h
      · rename_i hc
        simp only [Bool.and_eq_true, beq_iff_eq] at hc
        obtain ⟨xs, m, rfl, rfl, hl, hxl, hf⟩ := DataW.trod_struct hu ht
        refine leavesAll_okW n fs.toList ls m cs 0 h hc.1 ?_ ?_
        · rw [Nat.zero_add, hc.2]; exact hl
        · intro i f hif
          have hi : fs[i]? = some f := by simpa using hif
          have hlt : i < xs.length := by
            have := (Array.getElem?_eq_some_iff.1 hi).1
            omega
          refine ⟨xs[i], by rw [hf i f hi]; exact List.getElem?_eq_getElem hlt, fun q hq => hw q ?_⟩
          simp only [DataW.weights, hu]
          exact DataW.weights_mem_each (j := i) (t := f.type) (d := xs[i].1) (by rw [List.getElem?_map, hif]; rfl) (by rw [List.getElem?_map, List.getElem?_eq_getElem hlt]; rfl) q hq
      · cases h
    · rename_i m e hu
      split at h
      · rename_i hc
        simp only [beq_iff_eq] at hc
        cases hle : leaves P n e with
        | none => rw [hle] at h; cases h
        | some l =>
          rw [hle] at h
          simp only [Option.map_some, Option.some.injEq] at h
          subst h
          obtain ⟨xs, fu, rfl, hx1, hlen, hn3, hel⟩ := DataW.trod_array hu ht
          have key : ∀ k, k ≤ m → LeavesW enc P w base spare held R (List.replicate k l).flatten (cs.take (k * P.cellsOf e)) := by
            intro k
            induction k with
            | zero => intro _; simp; exact .nil
            | succ k ih =>
              intro hk
              have h1 := ih (by omega)
              have hk' : k < xs.length := by omega
              have h2 := hel k (by omega)
              rw [List.getElem?_eq_getElem hk'] at h2
              have h3 := leaves_okW n e l fu _ _ hle h2 (fun q hq => hw q (by
                rw [hx1]
                simp only [DataW.weights, hu]
                exact weights_mem_all (j := k) (d := xs[k].1) (by rw [List.getElem?_map, List.getElem?_eq_getElem hk']; rfl) q hq))
              have e1 : (List.replicate (k + 1) l).flatten = (List.replicate k l).flatten ++ l := by
                rw [List.replicate_succ', List.flatten_append]; simp
              have e2 : cs.take ((k + 1) * P.cellsOf e) = cs.take (k * P.cellsOf e) ++ (cs.drop (k * P.cellsOf e)).take (P.cellsOf e) := by
                rw [Nat.succ_mul, List.take_add]
              rw [e1, e2]
              exact h1.append h3
          have hm := key m (Nat.le_refl _)
          rw [hc, ← hlen, List.take_length] at hm
          exact hm
      · cases h
    · rename_i e hu
      cases h
      rcases trod_length ht with ⟨v, rfl⟩ | ⟨fs, h2⟩ | ⟨m, e', h2⟩
      · exact .cons ⟨fuel, x, ht, hw⟩ .nil
      · rw [hu] at h2; cases h2
      · rw [hu] at h2; cases h2
    · rename_i e hu
      cases h
      rcases trod_length ht with ⟨v, rfl⟩ | ⟨fs, h2⟩ | ⟨m, e', h2⟩
      · exact .cons ⟨fuel, x, ht, hw⟩ .nil
      · rw [hu] at h2; cases h2
      · rw [hu] at h2; cases h2
    · cases h
theorem leavesAll_okW : ∀ (n : Nat) (fs : List Field) (ls : List Leaf) (fuel : Nat) (cs : List Value) (at_ : Nat), leavesAll P n fs = some ls → fieldsLie P fs at_ = true → cs.length = at_ + fieldsSum P fs →
    (∀ (i : Nat) (f : Field), fs[i]? = some f → ∃ x, DataW.trod enc P w base spare held fuel f.type ((cs.drop f.offset).take (P.cellsOf f.type)) = some x ∧ ∀ n ∈ x.1.weights P f.type, n ≤ R) → LeavesW enc P w base spare held R ls (cs.drop at_)
  | 0, _, _, _, _, _, h, _, _, _ => by simp [leavesAll] at h
  | n + 1, [], ls, fuel, cs, at_, h, _, hs, _ => by
    simp only [leavesAll, Option.some.injEq] at h
    subst h
    rw [List.drop_of_length_le (by simp [fieldsSum] at hs; omega)]
    exact .nil
  | n + 1, f :: r, ls, fuel, cs, at_, h, hlie, hs, hf => by
    simp only [leavesAll] at h
    split at h
    · rename_i a b ha hb
      cases h
      simp only [fieldsLie, Bool.and_eq_true, beq_iff_eq] at hlie
      obtain ⟨x, hx, hwx⟩ := hf 0 f rfl
      rw [hlie.1] at hx
      have h1 := leaves_okW n f.type a fuel _ x ha hx hwx
      have h2 := leavesAll_okW n r b fuel cs (at_ + P.cellsOf f.type) hb hlie.2 (by simp [fieldsSum] at hs; omega) (fun i g hg => hf (i + 1) g (by simpa using hg))
      have e : cs.drop at_ = (cs.drop at_).take (P.cellsOf f.type) ++ cs.drop (at_ + P.cellsOf f.type) := by
        rw [← List.drop_drop, List.take_append_drop]
      rw [e]
      exact h1.append h2
    · cases h
end

/-- An argument that is a struct or an array: its cells, leaf by leaf. -/
theorem open_leavesW {W : World} {b : Nat} {t : TypeId} {v : Value} {d : DataW H} {ps : List MemPlace} {ls : List Leaf} {n : Nat} (hls : leaves P n t = some ls)
    (hst : (match P.underlying t with | some (.struct _) | some (.array _ _) => true | _ => false) = true)
    (hv : Value.okWide P W .any b t v) (h : DataW.Trod enc P W base spare held t v d ps) (hw : ∀ n ∈ d.weights P t, n ≤ R) : ∃ cs, v = .agg cs.toArray ∧ LeavesW enc P W base spare held R ls cs := by
  obtain ⟨fuel, hf⟩ := h
  unfold Value.okWide at hv
  split at hst
  · rename_i fs hu
    rw [hu] at hv
    obtain ⟨cs, rfl, _, _⟩ := hv
    exact ⟨cs.toList, by simp, leaves_okW n t ls fuel _ _ hls hf hw⟩
  · rename_i m e hu
    rw [hu] at hv
    obtain ⟨cs, rfl, _, _⟩ := hv
    exact ⟨cs.toList, by simp, leaves_okW n t ls fuel _ _ hls hf hw⟩
  · cases hst
end

theorem by_u8 : Tryd.prog.underlying 5 = some (.int .u8) := by kernel_rfl
theorem by_c1 : Tryd.prog.cellsOf 5 = 1 := by kernel_rfl
theorem by_b1 : Tryd.prog.bytesOf 5 = 1 := by kernel_rfl

theorem u8_of_wf {n : Int} (h : (Lit.int .u8 n).wf = true) : ∃ b : UInt8, Value.int .u8 n = bv b := by
  have h2 : IntKind.u8.min ≤ n ∧ n ≤ IntKind.u8.max := by simpa [Lit.wf] using h
  have hm : IntKind.u8.min = 0 := by decide
  have hM : IntKind.u8.max = 255 := by decide
  refine ⟨UInt8.ofNat n.toNat, ?_⟩
  rw [bv_of_int]
  rw [hm, hM] at h2
  have : ((n.toNat : Nat) : Int) = n := Int.toNat_of_nonneg h2.1
  rw [this, show n % 256 = n by omega]

section
variable {H : Type} {enc : TypeId × Value → H} {W : World} {base : Nat} {spare : Nat → Bool} {held : Bool} {R : Nat}
/-- A slice of bytes that came in reads as a list. -/
theorem rb_of_trod {fuel : Nat} {v : Value} {x : DataW H × List MemPlace} (h : DataW.trod enc Tryd.prog W base spare held fuel 74 [v] = some x) (hw : ∀ n ∈ x.1.weights Tryd.prog 74, n ≤ reachBytes) :
    ∃ l, RB W v l ∧ (∀ g, v.ownBlock = some g → g < W.heap.size ∨ l = []) ∧ l.length ≤ 140737488351232 := by
  rcases Go.Deep.open_slice1 by_tu by_c1 h with ⟨hcs, rfl⟩ | ⟨a, len, cap, m, n, V, D, Pl, hcs, hb, hl, hm, hmm, rfl, hx⟩
  · cases hcs
    exact ⟨[], RB.nil_ W, fun g hg => .inr rfl, by simp⟩
  · simp only [List.cons.injEq, and_true] at hcs
    subst hcs
    have hlm : len ≤ m := by rw [hmm]; split <;> omega
    have hlen : len ≤ 140737488351232 := by
      have := hw ((len + (m - len)) * Tryd.prog.bytesOf 5) (by simp [DataW.weights, by_tu])
      rw [by_b1] at this
      simp only [reachBytes] at this
      omega
    have hB : ∀ i, i < len → ∃ b : UInt8, V i = bv b := fun i hi => by
      obtain ⟨_, ht⟩ := hx i (by omega)
      obtain ⟨k, e, _, hwf⟩ := DataW.trod_int by_u8 ht
      simp only [List.cons.injEq, and_true] at e
      obtain ⟨b, hb⟩ := u8_of_wf hwf
      exact ⟨b, e.trans hb⟩
    obtain ⟨bs, hbs⟩ := Go.Deep.choose_lt (α := UInt8) (p := fun i b => V i = bv b) hB
    have hll : ((List.range len).map bs).length = len := by simp
    have hcellb : ∀ i b, ((List.range len).map bs)[i]? = some b → ∃ g o, some a = some (⟨g, o, none⟩ : Addr) ∧ g < W.heap.size ∧ W.cell? ⟨g, o + i, none⟩ = some (bv b) := fun i b hi => by
      have hil : i < len := by have := (List.getElem?_eq_some_iff.1 hi).1; simpa using this
      have hbi : bs i = b := by
        rw [List.getElem?_map, List.getElem?_range hil] at hi
        simpa using hi
      obtain ⟨hc, _⟩ := hx i (by omega)
      have hsp := World.cell?_spot (hx 0 (by omega)).1
      obtain ⟨g, off, spot⟩ := a
      have hspot : spot = none := by simpa [Addr.add] using hsp
      subst hspot
      rw [add_flat] at hc
      refine ⟨g, off, rfl, cell_lt hc, ?_⟩
      rw [hc, hbs i hil, hbi]
    refine ⟨(List.range len).map bs, ⟨some a, cap, by rw [hll], by rw [hll]; exact hl, hm, by rw [hll]; omega, hcellb⟩, fun g hg => ?_, by rw [hll]; exact hlen⟩
    by_cases h0 : len = 0
    · exact .inr (by rw [h0]; rfl)
    · obtain ⟨g', o, e, hlt, _⟩ := hcellb 0 (bs 0) (by rw [List.getElem?_map, List.getElem?_range (by omega)]; rfl)
      injection e with e
      subst e
      simp only [Value.ownBlock, Option.some.injEq] at hg
      subst hg
      exact .inl hlt
end

section
variable {H : Type} {enc : TypeId × Value → H} {P : Program} {W : World} {base : Nat} {spare : Nat → Bool} {held : Bool}
theorem weights_each {ts : List TypeId} {ds : List (DataW H)} (h : (DataW.weightsEach P ts ds).all (· ≤ reachBytes) = true) {j : Nat} {t : TypeId} {d : DataW H} (ht : ts[j]? = some t) (hd : ds[j]? = some d) : ∀ n ∈ d.weights P t, n ≤ reachBytes :=
  fun n hn => by simpa using List.all_eq_true.1 h _ (DataW.weights_mem_each ht hd n hn)
theorem trodAll_one {t : TypeId} {args : Array Value} {ds : List (DataW H)} {ps : List MemPlace} (h : DataW.TrodAll enc P W base spare held [t] args.toList ds ps) :
    ∃ v d p, args = #[v] ∧ ds = [d] ∧ DataW.Trod enc P W base spare held t v d p := by
  obtain ⟨v, vs, d, ds', p, q, hargs, rfl, rfl, hd, hrest⟩ := trodAll_cons h
  obtain ⟨rfl, rfl, rfl⟩ := trodAll_nil hrest
  exact ⟨v, d, p, by cases args; simp_all, rfl, hd⟩
theorem trodAll_two {t t' : TypeId} {args : Array Value} {ds : List (DataW H)} {ps : List MemPlace} (h : DataW.TrodAll enc P W base spare held [t, t'] args.toList ds ps) :
    ∃ v v' d d' p p', args = #[v, v'] ∧ ds = [d, d'] ∧ DataW.Trod enc P W base spare held t v d p ∧ DataW.Trod enc P W base spare held t' v' d' p' := by
  obtain ⟨v, vs, d, ds', p, q, hargs, rfl, rfl, hd, hrest⟩ := trodAll_cons h
  obtain ⟨v', vs', d', ds'', p', q', rfl, rfl, rfl, hd', hrest'⟩ := trodAll_cons hrest
  obtain ⟨rfl, rfl, rfl⟩ := trodAll_nil hrest'
  exact ⟨v, v', d, d', p, p', by cases args; simp_all, rfl, hd, hd'⟩
theorem trodAll_three {t t' t'' : TypeId} {args : Array Value} {ds : List (DataW H)} {ps : List MemPlace} (h : DataW.TrodAll enc P W base spare held [t, t', t''] args.toList ds ps) :
    ∃ v v' v'' d d' d'' p p' p'', args = #[v, v', v''] ∧ ds = [d, d', d''] ∧ DataW.Trod enc P W base spare held t v d p ∧ DataW.Trod enc P W base spare held t' v' d' p' ∧ DataW.Trod enc P W base spare held t'' v'' d'' p'' := by
  obtain ⟨v, vs, d, ds', p, q, hargs, rfl, rfl, hd, hrest⟩ := trodAll_cons h
  obtain ⟨v', vs', d', ds'', p', q', rfl, rfl, rfl, hd', hrest'⟩ := trodAll_cons hrest
  obtain ⟨v'', vs'', d'', ds''', p'', q'', rfl, rfl, rfl, hd'', hrest''⟩ := trodAll_cons hrest'
  obtain ⟨rfl, rfl, rfl⟩ := trodAll_nil hrest''
  exact ⟨v, v', v'', d, d', d'', p, p', p'', by cases args; simp_all, rfl, hd, hd', hd''⟩
end
theorem u32_wf {n : Int} (h : (Lit.int .u32 n).wf = true) : ∃ m : Nat, n = (m : Int) ∧ m < 4294967296 := by
  have h2 : IntKind.u32.min ≤ n ∧ n ≤ IntKind.u32.max := by simpa [Lit.wf] using h
  have hm : IntKind.u32.min = 0 := by decide
  have hM : IntKind.u32.max = 4294967295 := by decide
  rw [hm, hM] at h2
  exact ⟨n.toNat, (Int.toNat_of_nonneg h2.1).symm, by omega⟩
theorem u64_wf {n : Int} (h : (Lit.int .u64 n).wf = true) : ∃ m : Nat, n = (m : Int) ∧ m < 18446744073709551616 := by
  have h2 : IntKind.u64.min ≤ n ∧ n ≤ IntKind.u64.max := by simpa [Lit.wf] using h
  have hm : IntKind.u64.min = 0 := by decide
  have hM : IntKind.u64.max = 18446744073709551615 := by decide
  rw [hm, hM] at h2
  exact ⟨n.toNat, (Int.toNat_of_nonneg h2.1).symm, by omega⟩
section
open Go.ChangeShapes
variable {H : Type} {enc : TypeId × Value → H} {W : World} {b base : Nat} {spare : Nat → Bool} {held : Bool}
/-- A slice of bytes that came in. -/
theorem open_bytes {v : Value} {d : DataW H} {ps : List MemPlace} (hv : Value.okWide Tryd.prog W .any b 74 v) (h : DataW.Trod enc Tryd.prog W base spare held 74 v d ps) (hw : ∀ n ∈ d.weights Tryd.prog 74, n ≤ reachBytes) :
    ∃ l, RB W v l ∧ l.length ≤ 140737488351232 := by
  obtain ⟨pa, n, cp, rfl⟩ := Go.WideShapes.okWide_slice by_tu hv
  obtain ⟨fuel, hf⟩ := h
  obtain ⟨l, hr, _, hlen⟩ := rb_of_trod hf hw
  exact ⟨l, hr, hlen⟩
end
end Go.Proofs.YtckbckdaffdjmaaDoor

/- A slice of words that came in. -/
namespace Go.Proofs.YtckbckdaffdjmaaDoor
open Go.RowKit Go.ChangeShapes
set_option maxRecDepth 100000
set_option linter.unusedVariables false
set_option linter.unusedSimpArgs false

theorem uy_u64 : Tryd.prog.underlying 58 = some (.int .u64) := by kernel_rfl
theorem uy_c1 : Tryd.prog.cellsOf 58 = 1 := by kernel_rfl
theorem uy_b8 : Tryd.prog.bytesOf 58 = 8 := by kernel_rfl
theorem uv_of_wf {n : Int} (h : (Lit.int .u64 n).wf = true) : ∃ b : UInt64, Value.int .u64 n = uv b := by
  obtain ⟨m, rfl, hm⟩ := u64_wf h
  exact ⟨UInt64.ofNat m, by show _ = Value.int .u64 ((UInt64.ofNat m).toNat : Int); rw [UInt64.toNat_ofNat', Nat.mod_eq_of_lt hm]⟩
section
variable {H : Type} {enc : TypeId × Value → H} {W : World} {base : Nat} {spare : Nat → Bool} {held : Bool}
/-- A slice of words that came in reads as a list. -/
theorem ru_of_trod {fuel : Nat} {v : Value} {x : DataW H × List MemPlace} (h : DataW.trod enc Tryd.prog W base spare held fuel 22 [v] = some x) (hw : ∀ n ∈ x.1.weights Tryd.prog 22, n ≤ reachBytes) :
    ∃ l, RU W v l ∧ l.length ≤ 17592186043904 := by
  rcases Go.Deep.open_slice1 uy_tu uy_c1 h with ⟨hcs, rfl⟩ | ⟨a, len, cap, m, n, V, D, Pl, hcs, hb, hl, hm, hmm, rfl, hx⟩
  · cases hcs
    exact ⟨[], RU.nil_ W, by simp⟩
  · simp only [List.cons.injEq, and_true] at hcs
    subst hcs
    have hlm : len ≤ m := by rw [hmm]; split <;> omega
    have hlen : len ≤ 17592186043904 := by
      have := hw ((len + (m - len)) * Tryd.prog.bytesOf 58) (by simp [DataW.weights, uy_tu])
      rw [uy_b8] at this
      simp only [reachBytes] at this
      omega
    have hB : ∀ i, i < len → ∃ b : UInt64, V i = uv b := fun i hi => by
      obtain ⟨_, ht⟩ := hx i (by omega)
      obtain ⟨k, e, _, hwf⟩ := DataW.trod_int uy_u64 ht
      simp only [List.cons.injEq, and_true] at e
      obtain ⟨b, hb⟩ := uv_of_wf hwf
      exact ⟨b, e.trans hb⟩
    obtain ⟨bs, hbs⟩ := Go.Deep.choose_lt (α := UInt64) (p := fun i b => V i = uv b) hB
    have hll : ((List.range len).map bs).length = len := by simp
    have hcellb : ∀ i b, ((List.range len).map bs)[i]? = some b → ∃ g o, some a = some (⟨g, o, none⟩ : Addr) ∧ g < W.heap.size ∧ W.cell? ⟨g, o + i, none⟩ = some (uv b) := fun i b hi => by
      have hil : i < len := by have := (List.getElem?_eq_some_iff.1 hi).1; simpa using this
      have hbi : bs i = b := by
        rw [List.getElem?_map, List.getElem?_range hil] at hi
        simpa using hi
      obtain ⟨hc, _⟩ := hx i (by omega)
      have hsp := World.cell?_spot (hx 0 (by omega)).1
      obtain ⟨g, off, spot⟩ := a
      have hspot : spot = none := by simpa [Addr.add] using hsp
      subst hspot
      rw [add_flat] at hc
      refine ⟨g, off, rfl, cell_lt hc, ?_⟩
      rw [hc, hbs i hil, hbi]
    exact ⟨(List.range len).map bs, ⟨some a, cap, by rw [hll], by rw [hll]; exact hl, hm, by rw [hll]; omega, hcellb⟩, by rw [hll]; exact hlen⟩
theorem open_words {b : Nat} {v : Value} {d : DataW H} {ps : List MemPlace} (hv : Value.okWide Tryd.prog W .any b 22 v) (h : DataW.Trod enc Tryd.prog W base spare held 22 v d ps) (hw : ∀ n ∈ d.weights Tryd.prog 22, n ≤ reachBytes) :
    ∃ l, RU W v l ∧ l.length ≤ 17592186043904 := by
  obtain ⟨pa, n, cp, rfl⟩ := Go.WideShapes.okWide_slice uy_tu hv
  obtain ⟨fuel, hf⟩ := h
  exact ru_of_trod hf hw
end
end Go.Proofs.YtckbckdaffdjmaaDoor

/- The arguments of chapter 3's laws; the door's own heap meets the condition. -/
namespace Go.Proofs.YtckbckdaffdjmaaDoor
open Go.RowKit Go.ChangeShapes
set_option maxRecDepth 100000
set_option linter.unusedVariables false
set_option linter.unusedSimpArgs false

theorem made_leaves : leaves Tryd.prog 10 24 = some [.bool, .int .i64, .other 22] := by kernel_rfl
section
variable {H : Type} {enc : TypeId × Value → H} {W : World} {b base : Nat} {spare : Nat → Bool} {held : Bool}
/-- A Made that came in. -/
theorem open_made {v : Value} {d : DataW H} {ps : List MemPlace} (hv : Value.okWide Tryd.prog W .any b 24 v) (h : DataW.Trod enc Tryd.prog W base spare held 24 v d ps) (hw : ∀ n ∈ d.weights Tryd.prog 24, n ≤ reachBytes) :
    ∃ (fr : Bool) (n : Int) (xv : Value) (V : List UInt64), v = .agg #[.bool fr, .int .i64 n, xv] ∧ (Lit.int .i64 n).wf = true ∧ RU W xv V ∧ V.length ≤ 17592186043904 := by
  obtain ⟨cs, rfl, hl⟩ := open_leavesW (R := reachBytes) made_leaves (by kernel_rfl) hv h hw
  obtain ⟨fr, _, rfl, hl1⟩ := hl.bool
  obtain ⟨n, _, rfl, hn, hl⟩ := hl1.int
  obtain ⟨vp, _, rfl, ⟨fuel, x, hx, hwx⟩, hl⟩ := hl.other
  obtain rfl := hl.unnil
  obtain ⟨l, hr, hlen⟩ := ru_of_trod hx hwx
  exact ⟨fr, n, vp, l, rfl, hn, hr, hlen⟩
end
theorem door_met (os : Os) (args : Array Value) : laidMetH Tryd.prog [("math/bits.deBruijn64tab", Rows.laid_math_bits_deBruijn64tab)] ((World.doorLaid Tryd.prog 400 os).forCall (fun _ _ => 0) ⟨#[], args, []⟩).memory :=
  laidMetH_of_parts3 (fuel := 8) (laidMet_of_run' 8 (by kernel_rfl) (by kernel_rfl)) (by kernel_rfl) (by kernel_rfl)
/-- The zero Made, as an argument. -/
abbrev zeroM : Value := .agg #[.bool false, .int .i64 0, .slice none 0 0]
end Go.Proofs.YtckbckdaffdjmaaDoor
