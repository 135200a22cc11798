/- Walks and plain laws of the packets and frames, joined from: Og, StU, KpL, KpM, KpS, MdU, MdF, AskA, AskB. -/
import Derived.Test.YtckbckdaffdjmaaDoorRk4
import Derived.Deep.MidRow
import Derived.Deep.Upon
import Derived.BigQuiet
/- Regions that draw their order and hold several operations that make memory: each operation by itself, at any order: what each slot holds (V) is told of the world, and must outlast the others. -/
namespace Go.Proofs.YtckbckdaffdjmaaDoor
open Go.RowKit
set_option linter.unusedSimpArgs false
namespace Og
/-- The frame is φ. -/
def Fr (n : Nat) (a : Act) (φ : Nat → Value) : Prop := a.defers = [] ∧ a.tmps.size = n ∧ ∀ t, a.tmps.getD t undef = φ t
def upd (φ : Nat → Value) (d : Nat) (v : Value) : Nat → Value := fun t => if t = d then v else φ t
def ev (φ : Nat → Value) : Operand → Value
  | .tmp t => φ t
  | .const v => v
  | .global g => .pointer (some ⟨g, 0, none⟩)
  | .func f => .func (.func f) #[] #[]
theorem Fr.eval {n : Nat} {a : Act} {φ : Nat → Value} (h : Fr n a φ) : a.eval = ev φ := by
  funext x
  cases x with
  | tmp t => exact h.2.2 t
  | const v => rfl
  | global g => rfl
  | func f => rfl
theorem Fr.put {n : Nat} {a : Act} {φ : Nat → Value} (h : Fr n a φ) (d : Nat) (v : Value) (hd : d < n) : Fr n (a.put (some d) v) (upd φ d v) := by
  obtain ⟨h1, h2, h3⟩ := h
  refine ⟨h1, by simpa [Act.put] using h2, fun t => ?_⟩
  have := h3 t
  simp only [Act.put, upd, Array.getD_eq_getD_getElem?] at this ⊢
  by_cases e : t = d
  · subst e
    simp [Array.getElem?_setIfInBounds, h2, hd]
  · rw [if_neg e, Array.getElem?_setIfInBounds_ne (Ne.symm e)]
    exact this
theorem Fr.lit {n : Nat} {t : Array Value} (hn : t.size = n) : Fr n ⟨t, []⟩ (fun k => t.getD k undef) := ⟨rfl, hn, fun _ => rfl⟩

theorem Fr.lit_eq {n : Nat} {a : Act} {φ : Nat → Value} (h : Fr n a φ) : a = ⟨((List.range n).map φ).toArray, []⟩ := by
  obtain ⟨t, d⟩ := a
  obtain ⟨h1, h2, h3⟩ := h
  simp only at h1 h2 h3
  subst h1
  congr 1
  apply Array.ext
  · simpa using h2
  · intro i hi _
    have := h3 i
    simp only [Array.getD_eq_getD_getElem?, Array.getElem?_eq_getElem hi, Option.getD_some] at this
    simpa using this
theorem Fr.lit_ex {n : Nat} {a : Act} {φ : Nat → Value} (h : Fr n a φ) (F : (Nat → Value) → Act) (he : (⟨((List.range n).map φ).toArray, []⟩ : Act) = F φ) : ∃ U, a = F U := ⟨φ, h.lit_eq.trans he⟩
def isData : Edge → Bool
  | ⟨_, .data⟩ => true
  | ⟨_, .guard⟩ => true
  | _ => false
/-- Is the operation wanted in that frame? -/
def wantF (l : List Oper) (φ : Nat → Value) (o : Oper) : Bool := Region.wanted o fun j => match (l[j]?).bind (·.dst) with
  | some d => match φ d with
    | .bool b => some b
    | _ => none
  | none => none
/-- Does the operation use what operation j yields? -/
def usesB (o : Oper) (j : Nat) : Bool := o.after.toList.any fun e => isData e && e.on == j
/-- Must operation j be done ahead of the operation? -/
def tiedB (o : Oper) (j : Nat) : Bool := o.after.toList.any fun e => Region.binds .any e && e.on == j
def isDst (l : List Oper) (t : Nat) : Bool := l.any fun o => o.dst == some t
/-- Must what operation j yields outlast operation i? -/
def need (l : List Oper) (F : Nat → Bool) (j i : Nat) : Bool := j != i && !(match l[j]? with | some o => tiedB o i | none => false) && (F j || (List.range l.length).any fun k => k != i && match l[k]? with
  | some o => usesB o j
  | none => false)
/-- May operation j still be to come when operation i is done? -/
def open_ (l : List Oper) (j i : Nat) : Bool := j != i && !(match l[i]? with | some o => tiedB o j | none => false)
def wellB (l : List Oper) (n : Nat) : Bool :=
  (l.all fun o => match o.dst with | some d => decide (d < n) | none => true) && decide (l.filterMap (·.dst)).Nodup &&
  ((List.range l.length).all fun i => match l[i]? with | some o => o.after.all (fun e => !Region.binds .any e || decide (e.on < i)) | none => true)

section
variable {P : Program} {l : List Oper} {F : Nat → Bool} {V : Nat → Value → World → Prop} {R : World → Prop} {T : Nat → World → Prop} {φ0 : Nat → Value} {n : Nat}

/-- What operation i leaves. -/
structure Good (l : List Oper) (F : Nat → Bool) (V : Nat → Value → World → Prop) (R : World → Prop) (T : Nat → World → Prop) (i : Nat) (v : Value) (w w' : World) : Prop where
  keep : R w'
  val : V i v w'
  tok : ∀ j, open_ l j i = true → T j w → T j w'
  rest : ∀ j u, need l F j i = true → V j u w → V j u w'
def OpOk (P : Program) (l : List Oper) (F : Nat → Bool) (V : Nat → Value → World → Prop) (R : World → Prop) (T : Nat → World → Prop) (φ0 : Nat → Value) (i : Nat) (o : Oper) : Prop :=
  ∀ φ w, R w → T i w → (∀ t, isDst l t = false → φ t = φ0 t) → (∀ e ∈ o.after, isData e = true → ∀ oj d, l[e.on]? = some oj → oj.dst = some d → V e.on (φ d) w) →
    (wantF l φ o = true → match (execOp (ev φ) o).run P w with
    | .ok (.value v) w' => Good l F V R T i v w w'
    | .ok .skip w' => Good l F V R T i undef w w'
    | .ok (.enter f args) w' => Calls P f args w' fun e w'' => ∃ v, e = .returned v ∧ Good l F V R T i v w w''
    | _ => False) ∧ (wantF l φ o = false → Good l F V R T i undef w w)

/-- The frame and the world where some are done. -/
def Inv (l : List Oper) (F : Nat → Bool) (V : Nat → Value → World → Prop) (R : World → Prop) (T : Nat → World → Prop) (φ0 : Nat → Value) (n : Nat) (listed : Array Bool) (a : Act) (w : World) : Prop :=
  ∃ φ, Fr n a φ ∧ R w ∧ (∀ i, i < l.length → listed.getD i true = false → T i w) ∧ (∀ j oj, l[j]? = some oj → listed.getD j true = true → ∀ e ∈ oj.after, Region.binds .any e = true → listed.getD e.on false = true) ∧ (∀ t, isDst l t = false → φ t = φ0 t) ∧
    (∀ j oj d, l[j]? = some oj → oj.dst = some d → listed.getD j true = true → (F j = true ∨ ∃ k ok, l[k]? = some ok ∧ listed.getD k true = false ∧ usesB ok j = true) → V j (φ d) w) ∧
    ∀ j oj, l[j]? = some oj → oj.dst = none → listed.getD j true = true → (F j = true ∨ ∃ k ok, l[k]? = some ok ∧ listed.getD k true = false ∧ usesB ok j = true) → ∃ u, V j u w

theorem dst_ne (hn : (l.filterMap (·.dst)).Nodup) {i j d : Nat} {oi oj : Oper} (hi : l[i]? = some oi) (hj : l[j]? = some oj) (di : oi.dst = some d) (dj : oj.dst = some d) : i = j := by
  induction l generalizing i j with
  | nil => simp at hi
  | cons x l ih =>
    have hmem : ∀ (k : Nat) (o : Oper), l[k]? = some o → o.dst = some d → d ∈ l.filterMap (·.dst) := fun k o hk ho => List.mem_filterMap.2 ⟨o, List.mem_of_getElem? hk, ho⟩
    cases hx : x.dst with
    | none =>
      have hn' : (l.filterMap (·.dst)).Nodup := by simpa [List.filterMap_cons, hx] using hn
      cases i with
      | zero => simp only [List.getElem?_cons_zero, Option.some.injEq] at hi; subst hi; rw [hx] at di; cases di
      | succ i =>
        cases j with
        | zero => simp only [List.getElem?_cons_zero, Option.some.injEq] at hj; subst hj; rw [hx] at dj; cases dj
        | succ j => exact congrArg (· + 1) (ih hn' (by simpa using hi) (by simpa using hj))
    | some y =>
      have hn2 : y ∉ l.filterMap (·.dst) ∧ (l.filterMap (·.dst)).Nodup := by simpa [List.filterMap_cons, hx] using hn
      cases i with
      | zero =>
        simp only [List.getElem?_cons_zero, Option.some.injEq] at hi; subst hi
        rw [hx] at di; cases di
        cases j with
        | zero => rfl
        | succ j => exact absurd (hmem j oj (by simpa using hj) dj) hn2.1
      | succ i =>
        cases j with
        | zero =>
          simp only [List.getElem?_cons_zero, Option.some.injEq] at hj; subst hj
          rw [hx] at dj; cases dj
          exact absurd (hmem i oi (by simpa using hi) di) hn2.1
        | succ j => exact congrArg (· + 1) (ih hn2.2 (by simpa using hi) (by simpa using hj))

theorem isDst_of {t k : Nat} {o : Oper} (hk : l[k]? = some o) (h : o.dst = some t) : isDst l t = true := List.any_eq_true.2 ⟨o, List.mem_of_getElem? hk, by simp [h]⟩

theorem Inv.step (hB : wellB l n = true) {listed : Array Bool} (hs : listed.size = l.length) {i : Nat} {o : Oper} (hi : l[i]? = some o) (hun : listed.getD i true = false) {φ : Nat → Value} {a : Act} {w w' : World} {v : Value}
    (hF : Fr n a φ) (htk : ∀ i, i < l.length → listed.getD i true = false → T i w) (hdc : ∀ j oj, l[j]? = some oj → listed.getD j true = true → ∀ e ∈ oj.after, Region.binds .any e = true → listed.getD e.on false = true) (hdi : ∀ e ∈ o.after, Region.binds .any e = true → listed.getD e.on false = true) (h0 : ∀ t, isDst l t = false → φ t = φ0 t)
    (hv : ∀ j oj d, l[j]? = some oj → oj.dst = some d → listed.getD j true = true → (F j = true ∨ ∃ k ok, l[k]? = some ok ∧ listed.getD k true = false ∧ usesB ok j = true) → V j (φ d) w)
    (hvn : ∀ j oj, l[j]? = some oj → oj.dst = none → listed.getD j true = true → (F j = true ∨ ∃ k ok, l[k]? = some ok ∧ listed.getD k true = false ∧ usesB ok j = true) → ∃ u, V j u w)
    (hg : Good l F V R T i v w w') : Inv l F V R T φ0 n (listed.setIfInBounds i true) (a.put o.dst v) w' := by
  simp only [wellB, Bool.and_eq_true, decide_eq_true_eq, List.all_eq_true] at hB
  obtain ⟨⟨hall, hnd⟩, hord⟩ := hB
  have ho := hall o (List.mem_of_getElem? hi)
  obtain ⟨hk, hval, htok, hrest⟩ := hg
  have htk' : ∀ j, j < l.length → (listed.setIfInBounds i true).getD j true = false → T j w' := fun j hj hl => by
    by_cases e : j = i
    · subst e
      have : (listed.setIfInBounds j true).getD j true = true := by simp [Array.getD_eq_getD_getElem?, Array.getElem?_setIfInBounds, hs, hj]
      rw [this] at hl; cases hl
    · rw [getD_set_ne true (Ne.symm e)] at hl
      refine htok j ?_ (htk j hj hl)
      have hnu : tiedB o j = false := by
        cases hu : tiedB o j with
        | false => rfl
        | true =>
          obtain ⟨e1, he, hee⟩ := List.any_eq_true.1 hu
          simp only [Bool.and_eq_true, beq_iff_eq] at hee
          have h3 := hdi e1 (Array.mem_toList_iff.1 he) hee.1
          rw [hee.2] at h3
          have hlt : j < listed.size := by omega
          simp [Array.getD_eq_getD_getElem?, hlt] at hl h3
          rw [hl] at h3; cases h3
      simp [open_, e, hi, hnu]
  have hdc' : ∀ j oj, l[j]? = some oj → (listed.setIfInBounds i true).getD j true = true → ∀ e ∈ oj.after, Region.binds .any e = true → (listed.setIfInBounds i true).getD e.on false = true := fun j oj hj hl e he hb => by
    by_cases e' : j = i
    · subst e'
      obtain rfl : o = oj := Option.some.inj (hi.symm.trans hj)
      exact getD_set_true (hdi e he hb)
    · rw [getD_set_ne true (Ne.symm e')] at hl
      exact getD_set_true (hdc j oj hj hl e he hb)
  have needs : ∀ j oj, j ≠ i → l[j]? = some oj → listed.getD j true = true → (F j = true ∨ ∃ k ok, l[k]? = some ok ∧ (listed.setIfInBounds i true).getD k true = false ∧ usesB ok j = true) →
      need l F j i = true ∧ (F j = true ∨ ∃ k ok, l[k]? = some ok ∧ listed.getD k true = false ∧ usesB ok j = true) := by
      intro j oj hji hj hl hlive
      have hnu : tiedB oj i = false := by
        cases hu : tiedB oj i with
        | false => rfl
        | true =>
          obtain ⟨e, he, hee⟩ := List.any_eq_true.1 hu
          simp only [Bool.and_eq_true, beq_iff_eq] at hee
          have h3 := hdc j oj hj hl e (Array.mem_toList_iff.1 he) hee.1
          rw [hee.2] at h3
          have hlt : i < listed.size := by rw [hs]; exact (List.getElem?_eq_some_iff.1 hi).1
          simp [Array.getD_eq_getD_getElem?, hlt] at hun h3
          rw [hun] at h3; cases h3
      have hneed : need l F j i = true ∧ (F j = true ∨ ∃ k ok, l[k]? = some ok ∧ listed.getD k true = false ∧ usesB ok j = true) := by
        rcases hlive with hf | ⟨k, ok, hk', hku, huse⟩
        · exact ⟨by simp [need, hji, hf, hj, hnu], .inl hf⟩
        · by_cases hki : k = i
          · subst hki
            have : (listed.setIfInBounds k true).getD k true = true := by
              have hlt : k < listed.size := by rw [hs]; exact (List.getElem?_eq_some_iff.1 hi).1
              simp [Array.getD_eq_getD_getElem?, Array.getElem?_setIfInBounds, hlt]
            rw [this] at hku; cases hku
          · rw [getD_set_ne true (Ne.symm hki)] at hku
            refine ⟨?_, .inr ⟨k, ok, hk', hku, huse⟩⟩
            simp only [need, Bool.and_eq_true, bne_iff_ne, ne_eq, Bool.or_eq_true, List.any_eq_true, List.mem_range]
            exact ⟨⟨hji, by rw [hj]; simpa using hnu⟩, .inr ⟨k, (List.getElem?_eq_some_iff.1 hk').1, hki, by rw [hk']; exact huse⟩⟩
      exact hneed
  have key : ∀ (φ' : Nat → Value), (∀ d, o.dst = some d → φ' d = v) → (∀ t, o.dst ≠ some t → φ' t = φ t) → ∀ j oj d, l[j]? = some oj → oj.dst = some d → (listed.setIfInBounds i true).getD j true = true →
      (F j = true ∨ ∃ k ok, l[k]? = some ok ∧ (listed.setIfInBounds i true).getD k true = false ∧ usesB ok j = true) → V j (φ' d) w' := by
    intro φ' h1 h2 j oj d hj hd hl hlive
    by_cases hji : j = i
    · subst hji
      obtain rfl : o = oj := Option.some.inj (hi.symm.trans hj)
      rw [h1 d hd]; exact hval
    · have hne : o.dst ≠ some d := fun e => hji (dst_ne hnd hj hi hd e)
      rw [h2 d hne]
      rw [getD_set_ne true (Ne.symm hji)] at hl
      have hneed := needs j oj hji hj hl hlive
      exact hrest j _ hneed.1 (hv j oj d hj hd hl hneed.2)
  have keyn : ∀ j oj, l[j]? = some oj → oj.dst = none → (listed.setIfInBounds i true).getD j true = true →
      (F j = true ∨ ∃ k ok, l[k]? = some ok ∧ (listed.setIfInBounds i true).getD k true = false ∧ usesB ok j = true) → ∃ u, V j u w' := by
    intro j oj hj hd hl hlive
    by_cases hji : j = i
    · subst hji
      exact ⟨v, hval⟩
    · rw [getD_set_ne true (Ne.symm hji)] at hl
      have hneed := needs j oj hji hj hl hlive
      obtain ⟨u, hu⟩ := hvn j oj hj hd hl hneed.2
      exact ⟨u, hrest j u hneed.1 hu⟩
  cases hd : o.dst with
  | none => exact ⟨φ, hF, hk, htk', hdc', h0, key φ (fun d e => by rw [hd] at e; cases e) (fun _ _ => rfl), keyn⟩
  | some d =>
    have hlt : d < n := by have := ho; rw [hd] at this; simpa using this
    refine ⟨upd φ d v, hF.put d v hlt, hk, htk', hdc', fun t ht => ?_, key _ (fun d' e => ?_) (fun t e => ?_), keyn⟩
    · have : t ≠ d := fun e => by subst e; rw [isDst_of hi hd] at ht; cases ht
      simp only [upd, if_neg this]; exact h0 t ht
    · rw [hd] at e; cases e; simp [upd]
    · have : t ≠ d := fun e' => e (by rw [hd, e'])
      simp only [upd, if_neg this]

theorem ready_some (hB : wellB l n = true) {listed : Array Bool} (hs : listed.size = l.length) (hr : Region.ready .any l.toArray listed = []) : ∀ i, i < l.length → listed.getD i true = true := by
  simp only [wellB, Bool.and_eq_true, decide_eq_true_eq, List.all_eq_true, List.mem_range] at hB
  obtain ⟨_, hord⟩ := hB
  intro i
  induction i using Nat.strongRecOn with
  | ind i ih =>
    intro hi
    cases h : listed.getD i true with
    | true => rfl
    | false =>
      have hmem : i ∈ Region.ready .any l.toArray listed := by
        refine mem_ready.2 ⟨h, l[i], by simp [hi], fun e he hbd => ?_⟩
        have h1 := hord i hi
        rw [List.getElem?_eq_getElem hi] at h1
        have h2 : e.on < i := by simpa [hbd] using Array.all_eq_true_iff_forall_mem.1 h1 e he
        have h3 := ih e.on h2 (by omega)
        have hlt : e.on < listed.size := by omega
        simpa [Array.getD_eq_getD_getElem?, hlt] using h3
      rw [hr] at hmem; cases hmem

theorem wpAny_inv (hB : wellB l n = true) {Q : Exit → Act → World → Prop} (hstep : ∀ i o, l[i]? = some o → OpOk P l F V R T φ0 i o)
    (hend : ∀ φ a w, Fr n a φ → R w → (∀ t, isDst l t = false → φ t = φ0 t) → (∀ j o d, F j = true → l[j]? = some o → o.dst = some d → V j (φ d) w) → (∀ j o, F j = true → l[j]? = some o → o.dst = none → ∃ u, V j u w) → Q .normal a w) :
    ∀ (f : Nat) (listed : Array Bool) (a : Act) (w : World), listed.size = l.length → (f = 0 → ∀ i, i < l.length → listed.getD i true = true) → (List.range l.length).countP (fun i => !listed.getD i true) = f → Inv l F V R T φ0 n listed a w → wpAny P .any l.toArray Q f listed a w := by
  have fin : ∀ (listed : Array Bool) (a : Act) (w : World), (∀ i, i < l.length → listed.getD i true = true) → Inv l F V R T φ0 n listed a w → Q .normal a w := by
    rintro listed a w hall ⟨φ, hF, hR, htk, hdc, h0, hv, hvn⟩
    exact hend φ a w hF hR h0 (fun j o d hf hj hd => hv j o d hj hd (hall j (List.getElem?_eq_some_iff.1 hj).1) (.inl hf)) (fun j o hf hj hd => hvn j o hj hd (hall j (List.getElem?_eq_some_iff.1 hj).1) (.inl hf))
  intro f
  induction f with
  | zero =>
    intro listed a w hs h0 _ hI
    refine ⟨?_, fin listed a w (h0 rfl) hI⟩
    cases hr : Region.ready .any l.toArray listed with
    | nil => rfl
    | cons i r =>
      have hm : i ∈ Region.ready .any l.toArray listed := by rw [hr]; exact List.mem_cons_self ..
      obtain ⟨h1, o, ho, _⟩ := mem_ready.1 hm
      have hlt : i < l.length := by have := (Array.getElem?_eq_some_iff.1 ho).1; simpa using this
      rw [h0 rfl i hlt] at h1; cases h1
  | succ f ih =>
    intro listed a w hs _ hc hI
    refine ⟨fun hr => fin listed a w (ready_some hB hs hr) hI, fun i hm => ?_⟩
    obtain ⟨hun, o, ho, hdep⟩ := mem_ready.1 hm
    have hio : l[i]? = some o := by simpa using ho
    have hlt : i < l.length := (List.getElem?_eq_some_iff.1 hio).1
    obtain ⟨φ, hF, hR, htk, hdc, h0, hv, hvn⟩ := hI
    have hok := hstep i o hio φ w hR (htk i hlt hun) h0 (fun e he hd oj d hj hdj => by
      have hb : Region.binds .any e = true := by
        obtain ⟨on, g⟩ := e
        cases g <;> first | rfl | cases hd
      have hl := hdep e he hb
      refine hv e.on oj d hj hdj ?_ (.inr ⟨i, o, hio, hun, ?_⟩)
      · cases hx : listed[e.on]? with
        | none => simp [Array.getD_eq_getD_getElem?, hx] at hl
        | some b => simpa [Array.getD_eq_getD_getElem?, hx] using hl
      · exact List.any_eq_true.2 ⟨e, Array.mem_toList_iff.2 he, by simp [hd]⟩)
    have hw : Region.wanted o (yielded l.toArray a.tmps) = wantF l φ o := by
      have hall : ∀ (k : Nat) (ok : Oper) (d : Nat), l[k]? = some ok → ok.dst = some d → d < n := fun k ok d hk hd => by
        have h1 := hB
        simp only [wellB, Bool.and_eq_true, List.all_eq_true] at h1
        have h2 := h1.1.1 ok (List.mem_of_getElem? hk)
        rw [hd] at h2
        simpa using h2
      unfold wantF Region.wanted
      cases o.guard with
      | none => rfl
      | some g =>
        obtain ⟨j, want⟩ := g
        have : yielded l.toArray a.tmps j = (match (l[j]?).bind (·.dst) with
          | some d => match φ d with
            | .bool b => some b
            | _ => none
          | none => none) := by
          unfold yielded
          rw [List.getElem?_toArray]
          cases hj : l[j]? with
          | none => rfl
          | some oj =>
            cases hd : oj.dst with
            | none => simp [hd]
            | some d =>
              have hlt2 : d < a.tmps.size := by rw [hF.2.1]; exact hall j oj d hj hd
              have h3 := hF.2.2 d
              simp only [Array.getD_eq_getD_getElem?, Array.getElem?_eq_getElem hlt2, Option.getD_some] at h3
              simp only [Option.bind_some, hd, Array.getElem?_eq_getElem hlt2, h3]
              cases φ d <;> rfl
        simp only [this]
    have next : ∀ v w', Good l F V R T i v w w' → wpAny P .any l.toArray Q f (listed.setIfInBounds i true) (a.put o.dst v) w' := fun v w' hg => by
      have hcount : (List.range l.length).countP (fun j => !(listed.setIfInBounds i true).getD j true) = f := by
        have hle : ∀ (m : Nat), m ≤ l.length → (List.range m).countP (fun j => !listed.getD j true) = (List.range m).countP (fun j => !(listed.setIfInBounds i true).getD j true) + (if i < m then 1 else 0) := by
          intro m
          induction m with
          | zero => intro _; simp
          | succ m ihm =>
            intro hm'
            rw [List.range_succ, List.countP_append, List.countP_append, ihm (by omega)]
            by_cases e : m = i
            · subst e
              have h1 : (listed.setIfInBounds m true).getD m true = true := by
                simp [Array.getD_eq_getD_getElem?, Array.getElem?_setIfInBounds, hs, hlt]
              simp only [List.countP_cons, List.countP_nil, hun, h1]
              simp
            · simp only [List.countP_cons, List.countP_nil, getD_set_ne true (Ne.symm e)]
              have : (i < m + 1) = (i < m) := by simp; omega
              simp only [this]
              omega
        have := hle l.length (Nat.le_refl _)
        rw [if_pos hlt] at this
        omega
      refine ih _ _ _ (by simpa using hs) (fun hf0 => ?_) hcount (Inv.step hB hs hio hun hF htk hdc hdep h0 hv hvn hg)
      subst hf0
      intro j hj
      have := List.countP_eq_zero.1 hcount j (List.mem_range.2 hj)
      simpa using this
    unfold wpOp
    simp only [ho]
    rw [hw]
    cases hwf : wantF l φ o with
    | false =>
      simp only [Bool.false_eq_true, if_false]
      exact next undef w (hok.2 hwf)
    | true =>
      simp only [if_true]
      refine .inl ?_
      have hok := hok.1 hwf
      unfold Oper.wp
      rw [hF.eval]
      generalize (execOp (ev φ) o).run P w = r at hok
      cases r with
      | ok x w' =>
        cases x <;> simp only [Oper.upon] <;> simp only at hok
        case value v => exact next v w' hok
        case skip => exact next undef w' hok
        case enter g args =>
          exact Calls.mono hok fun e w'' ⟨v, he, hg⟩ => by subst he; exact next v w'' hg
        all_goals exact hok.elim
      | halt x w' => exact hok.elim

/-- One operation, the others as they are. -/
theorem inv_op (hB : wellB l n = true) {Q : Exit → Act → World → Prop} (hstep : ∀ i o, l[i]? = some o → OpOk P l F V R T φ0 i o) {listed : Array Bool} {a : Act} {w : World} {i : Nat} {o : Oper} {K : Act → World → Prop} (hs : listed.size = l.length) (hio : l[i]? = some o) (hun : listed.getD i true = false)
    (hdep : ∀ e ∈ o.after, Region.binds .any e = true → listed.getD e.on false = true) (hI : Inv l F V R T φ0 n listed a w) (hK : ∀ a' w', Inv l F V R T φ0 n (listed.setIfInBounds i true) a' w' → K a' w') :
    if Region.wanted o (yielded l.toArray a.tmps) = true then o.wp P a w K Q else K (a.put o.dst undef) w := by
    have hlt : i < l.length := (List.getElem?_eq_some_iff.1 hio).1
    obtain ⟨φ, hF, hR, htk, hdc, h0, hv, hvn⟩ := hI
    have hok := hstep i o hio φ w hR (htk i hlt hun) h0 (fun e he hd oj d hj hdj => by
      have hb : Region.binds .any e = true := by
        obtain ⟨on, g⟩ := e
        cases g <;> first | rfl | cases hd
      have hl := hdep e he hb
      refine hv e.on oj d hj hdj ?_ (.inr ⟨i, o, hio, hun, ?_⟩)
      · cases hx : listed[e.on]? with
        | none => simp [Array.getD_eq_getD_getElem?, hx] at hl
        | some b => simpa [Array.getD_eq_getD_getElem?, hx] using hl
      · exact List.any_eq_true.2 ⟨e, Array.mem_toList_iff.2 he, by simp [hd]⟩)
    have hw : Region.wanted o (yielded l.toArray a.tmps) = wantF l φ o := by
      have hall : ∀ (k : Nat) (ok : Oper) (d : Nat), l[k]? = some ok → ok.dst = some d → d < n := fun k ok d hk hd => by
        have h1 := hB
        simp only [wellB, Bool.and_eq_true, List.all_eq_true] at h1
        have h2 := h1.1.1 ok (List.mem_of_getElem? hk)
        rw [hd] at h2
        simpa using h2
      unfold wantF Region.wanted
      cases o.guard with
      | none => rfl
      | some g =>
        obtain ⟨j, want⟩ := g
        have : yielded l.toArray a.tmps j = (match (l[j]?).bind (·.dst) with
          | some d => match φ d with
            | .bool b => some b
            | _ => none
          | none => none) := by
          unfold yielded
          rw [List.getElem?_toArray]
          cases hj : l[j]? with
          | none => rfl
          | some oj =>
            cases hd : oj.dst with
            | none => simp [hd]
            | some d =>
              have hlt2 : d < a.tmps.size := by rw [hF.2.1]; exact hall j oj d hj hd
              have h3 := hF.2.2 d
              simp only [Array.getD_eq_getD_getElem?, Array.getElem?_eq_getElem hlt2, Option.getD_some] at h3
              simp only [Option.bind_some, hd, Array.getElem?_eq_getElem hlt2, h3]
              cases φ d <;> rfl
        simp only [this]
    have next : ∀ v w', Good l F V R T i v w w' → K (a.put o.dst v) w' := fun v w' hg => hK _ _ (Inv.step hB hs hio hun hF htk hdc hdep h0 hv hvn hg)
    rw [hw]
    cases hwf : wantF l φ o with
    | false =>
      simp only [Bool.false_eq_true, if_false]
      exact next undef w (hok.2 hwf)
    | true =>
      simp only [if_true]
      have hok := hok.1 hwf
      unfold Oper.wp
      rw [hF.eval]
      generalize (execOp (ev φ) o).run P w = r at hok
      cases r with
      | ok x w' =>
        cases x <;> simp only [Oper.upon] <;> simp only at hok
        case value v => exact next v w' hok
        case skip => exact next undef w' hok
        case enter g args =>
          exact Calls.mono hok fun e w'' ⟨v, he, hg⟩ => by subst he; exact next v w'' hg
        all_goals exact hok.elim
      | halt x w' => exact hok.elim

theorem wpList_inv (hB : wellB l n = true) {Q : Exit → Act → World → Prop} (hstep : ∀ i o, l[i]? = some o → OpOk P l F V R T φ0 i o)
    (hend : ∀ φ a w, Fr n a φ → R w → (∀ t, isDst l t = false → φ t = φ0 t) → (∀ j o d, F j = true → l[j]? = some o → o.dst = some d → V j (φ d) w) → (∀ j o, F j = true → l[j]? = some o → o.dst = none → ∃ u, V j u w) → Q .normal a w) :
    ∀ (rest : List Oper) (k : Nat) (listed : Array Bool) (a : Act) (w : World), l.drop k = rest → listed.size = l.length → (∀ j, j < l.length → (listed.getD j true = true ↔ j < k)) → Inv l F V R T φ0 n listed a w → wpList P l.toArray Q rest a w
  | [], k, listed, a, w, hd, hs, hl, hI => by
    obtain ⟨φ, hF, hR, htk, hdc, h0, hv, hvn⟩ := hI
    have hall : ∀ j, j < l.length → listed.getD j true = true := fun j hj => (hl j hj).2 (by have := List.drop_eq_nil_iff.1 hd; omega)
    exact hend φ a w hF hR h0 (fun j o d hf hj hd => hv j o d hj hd (hall j (List.getElem?_eq_some_iff.1 hj).1) (.inl hf)) (fun j o hf hj hd => hvn j o hj hd (hall j (List.getElem?_eq_some_iff.1 hj).1) (.inl hf))
  | o :: rest, k, listed, a, w, hd, hs, hl, hI => by
    have hio : l[k]? = some o := by
      have := List.getElem?_drop (xs := l) (i := k) (j := 0)
      rw [hd] at this
      simpa using this.symm
    have hlt : k < l.length := (List.getElem?_eq_some_iff.1 hio).1
    have hun : listed.getD k true = false := by
      cases h : listed.getD k true with
      | false => rfl
      | true => exact absurd ((hl k hlt).1 h) (Nat.lt_irrefl k)
    have hdep : ∀ e ∈ o.after, Region.binds .any e = true → listed.getD e.on false = true := fun e he hb => by
      have h1 := hB
      simp only [wellB, Bool.and_eq_true, List.all_eq_true, List.mem_range] at h1
      have h2 := h1.2 k hlt
      rw [hio] at h2
      have h3 : e.on < k := by simpa [hb] using Array.all_eq_true_iff_forall_mem.1 h2 e he
      have h4 := (hl e.on (by omega)).2 h3
      have h5 : e.on < listed.size := by omega
      simpa [Array.getD_eq_getD_getElem?, h5] using h4
    have hdrop : l.drop (k + 1) = rest := by
      have : l.drop (k + 1) = (l.drop k).drop 1 := by rw [List.drop_drop]
      rw [this, hd]; rfl
    have h := inv_op (P := P) (Q := Q) (K := wpList P l.toArray Q rest) hB hstep hs hio hun hdep hI (fun a' w' hI' => wpList_inv hB hstep hend rest (k + 1) _ a' w' hdrop (by simpa using hs) (fun j hj => by
      by_cases e : j = k
      · subst e
        simp [Array.getD_eq_getD_getElem?, Array.getElem?_setIfInBounds, hs, hj]
      · rw [getD_set_ne true (Ne.symm e), hl j hj]
        omega) hI')
    unfold wpList
    split at h
    · rename_i hw
      rw [if_pos hw]
      exact .inl h
    · rename_i hw
      rw [if_neg hw]
      exact h
/-- The rule for a plain region. -/
theorem wp_region_plain {id : Nat} {Q : Exit → Act → World → Prop} {t0 : Array Value} {w : World} (l : List Oper) (F : Nat → Bool) (V : Nat → Value → World → Prop) (R : World → Prop) (T : Nat → World → Prop) (n : Nat) (hn : t0.size = n) (hB : wellB l n = true) (hR : R w) (hT : ∀ i, i < l.length → T i w)
    (hstep : ∀ i o, l[i]? = some o → OpOk P l F V R T (fun k => t0.getD k undef) i o)
    (hend : ∀ φ a w, Fr n a φ → R w → (∀ t, isDst l t = false → φ t = t0.getD t undef) → (∀ j o d, F j = true → l[j]? = some o → o.dst = some d → V j (φ d) w) → (∀ j o, F j = true → l[j]? = some o → o.dst = none → ∃ u, V j u w) → Q .normal a w) :
    (Code.region id l.toArray false).wp P Q ⟨t0, []⟩ w := by
  refine wp_region_lit (wpList_inv hB hstep hend l 0 (Array.replicate l.length false) _ _ rfl (by simp) (fun j hj => ?_) ⟨_, Fr.lit hn, hR, fun i hi _ => hT i hi, fun j oj hj hl => ?_, fun _ _ => rfl, fun j oj d hj _ hl => ?_, fun j oj hj _ hl => ?_⟩)
  · simp [Array.getD_eq_getD_getElem?, hj]
  · have : j < l.length := (List.getElem?_eq_some_iff.1 hj).1
    simp [Array.getD_eq_getD_getElem?, this] at hl
  · have : j < l.length := (List.getElem?_eq_some_iff.1 hj).1
    simp [Array.getD_eq_getD_getElem?, this] at hl
  · have : j < l.length := (List.getElem?_eq_some_iff.1 hj).1
    simp [Array.getD_eq_getD_getElem?, this] at hl
/-- The rule. -/
theorem wp_region_og {id : Nat} {Q : Exit → Act → World → Prop} {t0 : Array Value} {w : World} (l : List Oper) (F : Nat → Bool) (V : Nat → Value → World → Prop) (R : World → Prop) (T : Nat → World → Prop) (n : Nat) (hn : t0.size = n) (hm : P.follows .mixedOrders = true) (hB : wellB l n = true) (hR : R { w with drawn := w.drawn + 1 }) (hT : ∀ i, i < l.length → T i { w with drawn := w.drawn + 1 })
    (hstep : ∀ i o, l[i]? = some o → OpOk P l F V R T (fun k => t0.getD k undef) i o)
    (hend : ∀ φ a w, Fr n a φ → R w → (∀ t, isDst l t = false → φ t = t0.getD t undef) → (∀ j o d, F j = true → l[j]? = some o → o.dst = some d → V j (φ d) w) → (∀ j o, F j = true → l[j]? = some o → o.dst = none → ∃ u, V j u w) → Q .normal a w) :
    (Code.region id l.toArray true).wp P Q ⟨t0, []⟩ w := by
  refine wp_region_any hm (wpAny_inv hB hstep hend _ _ _ _ (by simp) (fun h i hi => ?_) ?_ ⟨_, Fr.lit hn, hR, fun i hi _ => hT i hi, fun j oj hj hl => ?_, fun _ _ => rfl, fun j oj d hj _ hl => ?_, fun j oj hj _ hl => ?_⟩)
  · simp at h; subst h; simp at hi
  · rw [List.countP_eq_length.2]
    · simp
    · intro j hj
      have : j < l.length := List.mem_range.1 hj
      simp [Array.getD_eq_getD_getElem?, this]
  · have : j < l.length := (List.getElem?_eq_some_iff.1 hj).1
    simp [Array.getD_eq_getD_getElem?, this] at hl
  · have : j < l.length := (List.getElem?_eq_some_iff.1 hj).1
    simp [Array.getD_eq_getD_getElem?, this] at hl
  · have : j < l.length := (List.getElem?_eq_some_iff.1 hj).1
    simp [Array.getD_eq_getD_getElem?, this] at hl
end
/-- What each slot holds: a value (cs), or what a writer tells of it (wr). -/
def Vt (cs : List Value) (wr : List (Nat × (Value → World → Prop))) (j : Nat) : Value → World → Prop := match wr.lookup j with
  | some p => p
  | none => fun u _ => u = cs.getD j undef
def AllOps (Q : Nat → Oper → Prop) : Nat → List Oper → Prop
  | _, [] => True
  | k, o :: r => Q k o ∧ AllOps Q (k + 1) r
theorem allOps_from {Q : Nat → Oper → Prop} : ∀ (l : List Oper) (k : Nat), AllOps Q k l → ∀ i o, l[i]? = some o → Q (k + i) o
  | [], _, _, i, o, h => by simp at h
  | x :: r, k, h, 0, o, hi => by simp only [List.getElem?_cons_zero, Option.some.injEq] at hi; subst hi; exact h.1
  | x :: r, k, h, i + 1, o, hi => by
    have := allOps_from r (k + 1) h.2 i o (by simpa using hi)
    rwa [show k + 1 + i = k + (i + 1) by omega] at this
theorem allOps {Q : Nat → Oper → Prop} {l : List Oper} (h : AllOps Q 0 l) : ∀ i o, l[i]? = some o → Q i o := fun i o hi => by
  have := allOps_from l 0 h i o hi
  rwa [Nat.zero_add] at this
section
variable {P : Program} {l : List Oper} {F : Nat → Bool} {cs : List Value} {wr : List (Nat × (Value → World → Prop))} {R : World → Prop} {T : Nat → World → Prop} {φ0 : Nat → Value} {i : Nat} {o : Oper}
/-- What an operation may lean on. -/
structure At (l : List Oper) (cs : List Value) (wr : List (Nat × (Value → World → Prop))) (R : World → Prop) (T : Nat → World → Prop) (φ0 : Nat → Value) (i : Nat) (o : Oper) (φ : Nat → Value) (w : World) : Prop where
  keep : R w
  tok : T i w
  old : ∀ t, isDst l t = false → φ t = φ0 t
  dep : ∀ e ∈ o.after, isData e = true → ∀ oj d, l[e.on]? = some oj → oj.dst = some d → Vt cs wr e.on (φ d) w
theorem At.of {φ : Nat → Value} {w : World} (h : At l cs wr R T φ0 i o φ w) (j : Nat) {oj : Oper} {d : Nat} (he : (⟨j, .data⟩ : Edge) ∈ o.after) (hj : l[j]? = some oj) (hd : oj.dst = some d) : Vt cs wr j (φ d) w := h.dep ⟨j, .data⟩ he rfl oj d hj hd
/-- An operation that is not under a guard, or whose guard is met. -/
def Wants (l : List Oper) (cs : List Value) (wr : List (Nat × (Value → World → Prop))) (R : World → Prop) (T : Nat → World → Prop) (φ0 : Nat → Value) (i : Nat) (o : Oper) (b : Bool) : Prop := ∀ φ w, At l cs wr R T φ0 i o φ w → wantF l φ o = b
theorem wants_free (hg : o.guard = none) : Wants l cs wr R T φ0 i o true := fun φ w _ => by simp [wantF, Region.wanted, hg]
/-- The guard's value is known. -/
theorem wants_of (j : Nat) (want b : Bool) {oj : Oper} {d : Nat} (hg : o.guard = some (j, want)) (he : (⟨j, .guard⟩ : Edge) ∈ o.after) (hj : l[j]? = some oj) (hd : oj.dst = some d) (hw : wr.lookup j = none) (hc : cs.getD j undef = .bool b) : Wants l cs wr R T φ0 i o (b == want) := fun φ w hA => by
  have h := hA.dep ⟨j, .guard⟩ he rfl oj d hj hd
  unfold Vt at h
  simp only [hw, hc] at h
  simp [wantF, Region.wanted, hg, hj, hd, h]
/-- The guard itself was passed over. -/
theorem wants_off (j : Nat) (want : Bool) {oj : Oper} {d : Nat} (hg : o.guard = some (j, want)) (he : (⟨j, .guard⟩ : Edge) ∈ o.after) (hj : l[j]? = some oj) (hd : oj.dst = some d) (hw : wr.lookup j = none) (hc : cs.getD j undef = undef) : Wants l cs wr R T φ0 i o false := fun φ w hA => by
  have h := hA.dep ⟨j, .guard⟩ he rfl oj d hj hd
  unfold Vt at h
  simp only [hw, hc] at h
  simp [wantF, Region.wanted, hg, hj, hd, h, undef]
theorem ok_pass (hq : Wants l cs wr R T φ0 i o false) (hi : wr.lookup i = none) (hc : cs.getD i undef = undef) : OpOk P l F (Vt cs wr) R T φ0 i o := by
  intro φ w hR hT h0 hd
  refine ⟨fun h => ?_, fun _ => ⟨hR, by unfold Vt; rw [hi]; exact hc.symm, fun _ _ h => h, fun _ _ _ h => h⟩⟩
  rw [hq φ w ⟨hR, hT, h0, hd⟩] at h
  cases h
theorem ok_val_g (c : Value) (hq : Wants l cs wr R T φ0 i o true) (hi : wr.lookup i = none) (hc : cs.getD i undef = c) (h : ∀ φ w, At l cs wr R T φ0 i o φ w → (execOp (ev φ) o).run P w = .ok (.value c) w) : OpOk P l F (Vt cs wr) R T φ0 i o := by
  intro φ w hR hT h0 hd
  refine ⟨fun _ => ?_, fun h' => by rw [hq φ w ⟨hR, hT, h0, hd⟩] at h'; cases h'⟩
  rw [h φ w ⟨hR, hT, h0, hd⟩]
  exact ⟨hR, by unfold Vt; rw [hi]; exact hc.symm, fun _ _ h => h, fun _ _ _ h => h⟩
theorem ok_val (c : Value) (hi : wr.lookup i = none) (hc : cs.getD i undef = c) (h : ∀ φ w, At l cs wr R T φ0 i o φ w → (execOp (ev φ) o).run P w = .ok (.value c) w) (hgd : o.guard = none := by rfl) : OpOk P l F (Vt cs wr) R T φ0 i o := by
  intro φ w hR hT h0 hd
  refine ⟨fun _ => ?_, fun h' => by rw [wants_free hgd φ w ⟨hR, hT, h0, hd⟩] at h'; cases h'⟩
  rw [h φ w ⟨hR, hT, h0, hd⟩]
  exact ⟨hR, by unfold Vt; rw [hi]; exact hc.symm, fun _ _ h => h, fun _ _ _ h => h⟩
/-- What the writers tell outlasts what only grows. -/
def Lasts (wr : List (Nat × (Value → World → Prop))) : Prop := ∀ x ∈ wr, ∀ u w w', x.2 u w → Below w.heap.size w w' → x.2 u w'
theorem vt_of {w w' : World} {S : Nat → Prop} (h : ∀ x ∈ wr, S x.1 → ∀ u, x.2 u w → x.2 u w') (j : Nat) (u : Value) (hS : S j) (hv : Vt cs wr j u w) : Vt cs wr j u w' := by
  unfold Vt at *
  cases hp : wr.lookup j with
  | none => rw [hp] at hv; exact hv
  | some p =>
    rw [hp] at hv
    have hm : (j, p) ∈ wr := by
      clear h hv
      induction wr with
      | nil => simp at hp
      | cons x r ih =>
        obtain ⟨k, q⟩ := x
        rw [List.lookup_cons] at hp
        by_cases e : (j == k) = true
        · rw [e] at hp
          simp only [Option.some.injEq] at hp
          have : j = k := by simpa using e
          subst this hp
          exact List.mem_cons_self ..
        · simp only [Bool.not_eq_true] at e
          rw [e] at hp
          exact List.mem_cons_of_mem _ (ih hp)
    exact h (j, p) hm hS u hv
theorem ok_call (c : Value) (f : FuncId) (args : Array Value) (hW : Lasts wr) (hRb : ∀ w w', R w → Below w.heap.size w w' → R w') (hTb : ∀ j w w', T j w → Below w.heap.size w w' → T j w') (hi : wr.lookup i = none) (hc : cs.getD i undef = c)
    (h : ∀ φ w, At l cs wr R T φ0 i o φ w → (execOp (ev φ) o).run P w = .ok (.enter f args) w ∧ Calls P f args w (fun e w' => e = .returned c ∧ Below w.heap.size w w')) (hgd : o.guard = none := by rfl) : OpOk P l F (Vt cs wr) R T φ0 i o := by
  intro φ w hR hT h0 hd
  refine ⟨fun _ => ?_, fun h' => by rw [wants_free hgd φ w ⟨hR, hT, h0, hd⟩] at h'; cases h'⟩
  obtain ⟨h1, h2⟩ := h φ w ⟨hR, hT, h0, hd⟩
  rw [h1]
  refine h2.mono fun e w' ⟨he, hb⟩ => ⟨c, he, hRb w w' hR hb, by unfold Vt; rw [hi]; exact hc.symm, fun j _ h => hTb j w w' h hb, fun j u _ hv => vt_of (S := fun _ => True) (fun x hx _ u hu => hW x hx u w w' hu hb) j u trivial hv⟩
/-- A call whose arguments hang on what writers yielded. -/
theorem ok_call_at (c : Value) (f : FuncId) (hW : Lasts wr) (hRb : ∀ w w', R w → Below w.heap.size w w' → R w') (hTb : ∀ j w w', T j w → Below w.heap.size w w' → T j w') (hi : wr.lookup i = none) (hc : cs.getD i undef = c)
    (h : ∀ φ w, At l cs wr R T φ0 i o φ w → ∃ args, (execOp (ev φ) o).run P w = .ok (.enter f args) w ∧ Calls P f args w (fun e w' => e = .returned c ∧ Below w.heap.size w w')) (hgd : o.guard = none := by rfl) : OpOk P l F (Vt cs wr) R T φ0 i o := by
  intro φ w hR hT h0 hd
  refine ⟨fun _ => ?_, fun h' => by rw [wants_free hgd φ w ⟨hR, hT, h0, hd⟩] at h'; cases h'⟩
  obtain ⟨args, h1, h2⟩ := h φ w ⟨hR, hT, h0, hd⟩
  rw [h1]
  refine h2.mono fun e w' ⟨he, hb⟩ => ⟨c, he, hRb w w' hR hb, by unfold Vt; rw [hi]; exact hc.symm, fun j _ h => hTb j w w' h hb, fun j u _ hv => vt_of (S := fun _ => True) (fun x hx _ u hu => hW x hx u w w' hu hb) j u trivial hv⟩
theorem ok_wval (p : Value → World → Prop) (hi : wr.lookup i = some p)
    (h : ∀ φ w, At l cs wr R T φ0 i o φ w → ∃ v w', (execOp (ev φ) o).run P w = .ok (.value v) w' ∧ R w' ∧ p v w' ∧ (∀ j, open_ l j i = true → T j w → T j w') ∧ ∀ x ∈ wr, need l F x.1 i = true → ∀ u, x.2 u w → x.2 u w') (hgd : o.guard = none := by rfl) : OpOk P l F (Vt cs wr) R T φ0 i o := by
  intro φ w hR hT h0 hd
  refine ⟨fun _ => ?_, fun h' => by rw [wants_free hgd φ w ⟨hR, hT, h0, hd⟩] at h'; cases h'⟩
  obtain ⟨v, w', h1, h2, h3, h5, h4⟩ := h φ w ⟨hR, hT, h0, hd⟩
  rw [h1]
  exact ⟨h2, by unfold Vt; rw [hi]; exact h3, h5, fun j u hn hv => vt_of (S := fun j => need l F j i = true) (fun x hx hs u hu => h4 x hx hs u hu) j u hn hv⟩
theorem ok_wcall (p : Value → World → Prop) (hi : wr.lookup i = some p)
    (h : ∀ φ w, At l cs wr R T φ0 i o φ w → ∃ f args, (execOp (ev φ) o).run P w = .ok (.enter f args) w ∧ Calls P f args w (fun e w' => ∃ v, e = .returned v ∧ R w' ∧ p v w' ∧ (∀ j, open_ l j i = true → T j w → T j w') ∧ ∀ x ∈ wr, need l F x.1 i = true → ∀ u, x.2 u w → x.2 u w')) (hgd : o.guard = none := by rfl) : OpOk P l F (Vt cs wr) R T φ0 i o := by
  intro φ w hR hT h0 hd
  refine ⟨fun _ => ?_, fun h' => by rw [wants_free hgd φ w ⟨hR, hT, h0, hd⟩] at h'; cases h'⟩
  obtain ⟨f, args, h1, h2⟩ := h φ w ⟨hR, hT, h0, hd⟩
  rw [h1]
  exact h2.mono fun e w' ⟨v, he, h3, h4, h6, h5⟩ => ⟨v, he, h3, by unfold Vt; rw [hi]; exact h4, h6, fun j u hn hv => vt_of (S := fun j => need l F j i = true) (fun x hx hs u hu => h5 x hx hs u hu) j u hn hv⟩
/-- The function is one of the program's. -/
def Enters (P : Program) (f : FuncId) : Prop := ∀ args w, (callFunc f args).run P w = .ok (.enter f args) w
/-- A call of a function value. -/
theorem exec_call {ρ : Operand → Value} {x : Operand} {xs : Array Operand} {ts : Array TypeId} {f : FuncId} (ho : o.op = .call { callee := .value x, args := xs, argTypes := ts }) (hf : Enters P f) (hx : ρ x = .func (.func f) #[] #[]) (w : World) :
    (execOp ρ o).run P w = .ok (.enter f (xs.map ρ)) w := by
  unfold execOp
  rw [ho]
  simp [resolve, invoke, hx, Deferred.ofValue, hf _ _]
theorem ok_call_fn (c : Value) (x : Operand) (xs : Array Operand) (ts : Array TypeId) (hW : Lasts wr) (hRb : ∀ w w', R w → Below w.heap.size w w' → R w') (hTb : ∀ j w w', T j w → Below w.heap.size w w' → T j w') (hi : wr.lookup i = none) (hc : cs.getD i undef = c)
    (ho : o.op = .call { callee := .value x, args := xs, argTypes := ts }) (h : ∀ φ w, At l cs wr R T φ0 i o φ w → ∃ f args, Enters P f ∧ ev φ x = .func (.func f) #[] #[] ∧ xs.map (ev φ) = args ∧ Calls P f args w (fun e w' => e = .returned c ∧ Below w.heap.size w w')) (hgd : o.guard = none := by rfl) : OpOk P l F (Vt cs wr) R T φ0 i o := by
  intro φ w hR hT h0 hd
  refine ⟨fun _ => ?_, fun h' => by rw [wants_free hgd φ w ⟨hR, hT, h0, hd⟩] at h'; cases h'⟩
  obtain ⟨f, args, hf, h1, h2, h3⟩ := h φ w ⟨hR, hT, h0, hd⟩
  rw [exec_call ho hf h1, h2]
  refine h3.mono fun e w' ⟨he, hb⟩ => ⟨c, he, hRb w w' hR hb, by unfold Vt; rw [hi]; exact hc.symm, fun j _ h => hTb j w w' h hb, fun j u _ hv => vt_of (S := fun _ => True) (fun x hx _ u hu => hW x hx u w w' hu hb) j u trivial hv⟩
theorem ok_wcall_fn (p : Value → World → Prop) (x : Operand) (xs : Array Operand) (ts : Array TypeId) (hi : wr.lookup i = some p) (ho : o.op = .call { callee := .value x, args := xs, argTypes := ts })
    (h : ∀ φ w, At l cs wr R T φ0 i o φ w → ∃ f args, Enters P f ∧ ev φ x = .func (.func f) #[] #[] ∧ xs.map (ev φ) = args ∧ Calls P f args w (fun e w' => ∃ v, e = .returned v ∧ R w' ∧ p v w' ∧ (∀ j, open_ l j i = true → T j w → T j w') ∧ ∀ x ∈ wr, need l F x.1 i = true → ∀ u, x.2 u w → x.2 u w')) (hgd : o.guard = none := by rfl) : OpOk P l F (Vt cs wr) R T φ0 i o :=
  ok_wcall p hi (hgd := hgd) fun φ w hA => by
    obtain ⟨f, args, hf, h1, h2, h3⟩ := h φ w hA
    exact ⟨f, args, by rw [exec_call ho hf h1, h2], h3⟩
/-- A call that makes memory of its own and leaves what was there. -/
theorem ok_gcall_fn (p : Value → World → Prop) (x : Operand) (xs : Array Operand) (ts : Array TypeId) (hW : Lasts wr) (hRb : ∀ w w', R w → Below w.heap.size w w' → R w') (hTb : ∀ j w w', T j w → Below w.heap.size w w' → T j w') (hi : wr.lookup i = some p) (ho : o.op = .call { callee := .value x, args := xs, argTypes := ts })
    (h : ∀ φ w, At l cs wr R T φ0 i o φ w → ∃ f args, Enters P f ∧ ev φ x = .func (.func f) #[] #[] ∧ xs.map (ev φ) = args ∧ Calls P f args w (fun e w' => ∃ v, e = .returned v ∧ p v w' ∧ Below w.heap.size w w')) (hgd : o.guard = none := by rfl) : OpOk P l F (Vt cs wr) R T φ0 i o :=
  ok_wcall_fn p x xs ts hi ho (hgd := hgd) fun φ w hA => by
    obtain ⟨f, args, hf, h1, h2, h3⟩ := h φ w hA
    exact ⟨f, args, hf, h1, h2, h3.mono fun e w' ⟨v, he, hp, hb⟩ => ⟨v, he, hRb w w' hA.keep hb, hp, fun j _ h => hTb j w w' h hb, fun x hx _ u hu => hW x hx u w w' hu hb⟩⟩
/-- A writer's value, passed on. -/
theorem ok_wpass (p : Value → World → Prop) (d : Nat) (hi : wr.lookup i = some p) (ho : o.op = .move (.tmp d) ∨ o.op = .assign (.tmp d)) (h : ∀ φ w, At l cs wr R T φ0 i o φ w → p (φ d) w) (hgd : o.guard = none := by rfl) : OpOk P l F (Vt cs wr) R T φ0 i o :=
  ok_wval p hi (hgd := hgd) fun φ w hA => by
    refine ⟨φ d, w, ?_, hA.keep, h φ w hA, fun _ _ h => h, fun _ _ _ _ h => h⟩
    unfold execOp
    rcases ho with ho | ho <;> rw [ho] <;> simp [ev]
/-- append at the operation. -/
theorem exec_append {ρ : Operand → Value} {s x : Operand} {t : TypeId} {w w' : World} {v : Value} (ho : o.op = .call { callee := .builtin .append, args := #[s, x], argTypes := #[t, t] }) (h : (Builtin.append_ #[t, t] o.type #[ρ s, ρ x]).run P w = .ok v w') :
    (execOp ρ o).run P w = .ok (.value v) w' := by
  unfold execOp
  simp only [ho, resolve, invoke, builtin, Sem.run_bind, Sem.run_pure, Result.andThen_ok, List.map_toArray, List.map_cons, List.map_nil, h]
theorem exec_index {ρ : Operand → Value} {x y : Operand} {t : TypeId} {w : World} {v : Value} (ho : o.op = .index t x y) (h : (Instr.index t (ρ x) (ρ y)).run P w = .ok v w) : (execOp ρ o).run P w = .ok (.value v) w := by
  unfold execOp
  simp [ho, h]
theorem exec_field {ρ : Operand → Value} {x : Operand} {t : TypeId} {k : Nat} {w : World} {v : Value} (ho : o.op = .field t x k) (h : (Instr.field t (ρ x) k).run P w = .ok v w) : (execOp ρ o).run P w = .ok (.value v) w := by
  unfold execOp
  simp [ho, h]
/-- A load at the operation. -/
theorem exec_load {ρ : Operand → Value} {x : Operand} {t : TypeId} {w : World} {v : Value} (ho : o.op = .load t x) (h : (Instr.loadAt t (ρ x)).run P w = .ok v w) : (execOp ρ o).run P w = .ok (.value v) w := by
  unfold execOp
  simp [ho, h]
/-- A writer that yields nothing (a store). -/
theorem ok_wskip (p : Value → World → Prop) (hi : wr.lookup i = some p)
    (h : ∀ φ w, At l cs wr R T φ0 i o φ w → ∃ w', (execOp (ev φ) o).run P w = .ok .skip w' ∧ R w' ∧ p undef w' ∧ (∀ j, open_ l j i = true → T j w → T j w') ∧ ∀ x ∈ wr, need l F x.1 i = true → ∀ u, x.2 u w → x.2 u w') (hgd : o.guard = none := by rfl) : OpOk P l F (Vt cs wr) R T φ0 i o := by
  intro φ w hR hT h0 hd
  refine ⟨fun _ => ?_, fun h' => by rw [wants_free hgd φ w ⟨hR, hT, h0, hd⟩] at h'; cases h'⟩
  obtain ⟨w', h1, h2, h3, h5, h4⟩ := h φ w ⟨hR, hT, h0, hd⟩
  rw [h1]
  exact ⟨h2, by unfold Vt; rw [hi]; exact h3, h5, fun j u hn hv => vt_of (S := fun j => need l F j i = true) (fun x hx hs u hu => h4 x hx hs u hu) j u hn hv⟩
end
/-! Plain regions, step by step, the frame a function. -/
section
variable {P : Program} {ops : Array Oper} {rest : List Oper} {o : Oper} {a : Act} {Q : Exit → Act → World → Prop} {n : Nat} {φ : Nat → Value} {w w' : World}
theorem st_start {l : List Oper} {t : Array Value} (hn : t.size = n) (h : ∀ a, Fr n a (fun k => t.getD k undef) → wpList P ops Q l a w) : wpList P ops Q l ⟨t, []⟩ w := h _ (Fr.lit hn)
theorem st_val {d : Nat} (v : Value) (hF : Fr n a φ) (hg : o.guard = none) (hd : o.dst = some d) (hn : d < n) (hr : (execOp (ev φ) o).run P w = .ok (.value v) w') (k : ∀ a', Fr n a' (upd φ d v) → wpList P ops Q rest a' w') : wpList P ops Q (o :: rest) a w := by
  refine wpList_plain hg fun K hK => ?_
  unfold Oper.wp
  rw [hF.eval, hr]
  show K (a.put o.dst v) w'
  rw [hd]
  exact hK _ _ (k _ (hF.put d v hn))
theorem st_same {d : Nat} (v : Value) (hF : Fr n a φ) (hg : o.guard = none) (hd : o.dst = some d) (hn : d < n) (hr : (execOp (ev φ) o).run P w = .ok (.value v) w) (k : ∀ a', Fr n a' (upd φ d v) → wpList P ops Q rest a' w) : wpList P ops Q (o :: rest) a w := st_val v hF hg hd hn hr k
theorem st_skip (hF : Fr n a φ) (hg : o.guard = none) (hd : o.dst = none) (hr : (execOp (ev φ) o).run P w = .ok .skip w') (k : ∀ a', Fr n a' φ → wpList P ops Q rest a' w') : wpList P ops Q (o :: rest) a w := by
  refine wpList_plain hg fun K hK => ?_
  unfold Oper.wp
  rw [hF.eval, hr]
  show K (a.put o.dst undef) w'
  rw [hd]
  exact hK _ _ (k _ hF)
theorem st_call {d : Nat} {f : FuncId} {args : Array Value} (hF : Fr n a φ) (hg : o.guard = none) (hd : o.dst = some d) (hn : d < n) (hr : (execOp (ev φ) o).run P w = .ok (.enter f args) w) (hc : Calls P f args w fun e w' => ∃ v, e = .returned v ∧ ∀ a', Fr n a' (upd φ d v) → wpList P ops Q rest a' w') : wpList P ops Q (o :: rest) a w := by
  refine wpList_plain hg fun K hK => ?_
  unfold Oper.wp
  rw [hF.eval, hr]
  refine Calls.mono hc fun e w' ⟨v, he, h⟩ => ?_
  subst he
  show K (a.put o.dst v) w'
  rw [hd]
  exact hK _ _ (h _ (hF.put d v hn))
end
end Og
end Go.Proofs.YtckbckdaffdjmaaDoor

/- Stores into a block: one cell or a range, by the block's cells. (From the texts of chapter 7.) -/
namespace Go.Proofs.YtckbckdaffdjmaaDoor
open Go.RowKit
set_option maxRecDepth 100000
set_option linter.unusedVariables false
set_option linter.unusedSimpArgs false

/-- The cells with others laid over from a place on. -/
def setAll : List Value → Nat → List Value → List Value
  | cs, _, [] => cs
  | cs, o, v :: r => setAll (cs.set o v) (o + 1) r
theorem setAll_length : ∀ (vs cs : List Value) (o : Nat), (setAll cs o vs).length = cs.length
  | [], _, _ => rfl
  | v :: r, cs, o => by rw [setAll, setAll_length r]; simp
theorem setAll_over : ∀ (vs a old z : List Value), old.length = vs.length → setAll (a ++ (old ++ z)) a.length vs = a ++ (vs ++ z)
  | [], a, old, z, h => by
    have : old = [] := List.eq_nil_of_length_eq_zero h
    subst this; rfl
  | v :: r, a, x :: old, z, h => by
    rw [setAll]
    have e : (a ++ (x :: old ++ z)).set a.length v = (a ++ [v]) ++ (old ++ z) := by simp
    have := setAll_over r (a ++ [v]) old z (by simpa using h)
    rw [List.length_append, List.length_singleton] at this
    rw [e, this]
    simp
section
variable {P : Program} {w : World} {b : Nat} {ty : TypeId}
theorem setCells_heap : ∀ (vs : List Value) (o : Nat) (w : World) (cs : List Value), w.heap[b]? = some (.cells cs.toArray ty (0, 0)) → (w.setCells b o vs).heap[b]? = some (.cells (setAll cs o vs).toArray ty (0, 0))
  | [], _, _, _, h => h
  | v :: r, o, w, cs, h => by
    rw [World.setCells, setAll]
    refine setCells_heap r (o + 1) _ _ ?_
    have hlt := heap_lt h
    have hv : w.heap[b] = .cells cs.toArray ty (0, 0) := (Array.getElem?_eq_some_iff.1 h).2
    unfold World.setCell
    rw [Array.getElem?_eq_getElem (by simpa using hlt), Array.getElem_modify]
    simp [hv]
theorem setCells_grown (w : World) (b o : Nat) (vs : List Value) : w.grownBy (w.setCells b o vs) (some b) := by
  have h := World.keptBut_setCells b (may := fun _ => True) vs o w (fun _ _ => trivial)
  refine ⟨World.os_setCells w b o vs, ?_, World.output_setCells w b o vs, ?_, fun k hk hne => World.heap_setCells_other w b o vs hk (fun e => hne (by rw [e]))⟩
  · clear h
    induction vs generalizing o w with
    | nil => rfl
    | cons v r ih => rw [World.setCells, ih]; rfl
  · clear h
    induction vs generalizing o w with
    | nil => exact Nat.le_refl _
    | cons v r ih =>
      rw [World.setCells]
      refine Nat.le_trans ?_ (ih _ _)
      unfold World.setCell
      simp
theorem run_storeAt_cells (o : Nat) (T : TypeId) (v : Value) (vs cs : List Value) (hv : v.cells = vs.toArray) (hk : w.heap[b]? = some (.cells cs.toArray ty (0, 0))) (hle : o + vs.length ≤ cs.length) (hi : (P.info? T).map (·.size) = some vs.length) (h1 : ∀ u ∈ vs, u.oneCell' = true) :
    (Instr.storeAt T (.pointer (some ⟨b, o, none⟩)) v).run P w = .ok () (w.setCells b o vs) := by
  have hcell : ∀ j, j < vs.length → (w.cell? ⟨b, o + j, none⟩).isSome = true := fun j hj => by
    rw [has_cell hk]; simp; omega
  have hfz : ∀ j, j < vs.length → w.frozen? ⟨b, o + j, none⟩ = false := fun j hj => by simp [World.frozen?, hk]
  have := run_storeCells_cells (P := P) b o vs 0 w (fun j hj => by simpa using hcell j hj) (fun j hj => by simpa using hfz j hj) h1
  cases hq : P.info? T with
  | none => simp [hq] at hi
  | some i =>
    have hs : vs.length = i.size := by simp [hq] at hi; omega
    simp only [Nat.add_zero] at this
    simp [Instr.storeAt, Instr.sureAddr, storeVar, sizeOf, typeInfo, hq, hv, hs, this]
theorem exec_store {ρ : Operand → Value} {op : Oper} {x y : Operand} {T : TypeId} {o : Nat} {vs cs : List Value} (ho : op.op = .store T x y) (hx : ρ x = .pointer (some ⟨b, o, none⟩)) (hv : (ρ y).cells = vs.toArray) (hk : w.heap[b]? = some (.cells cs.toArray ty (0, 0))) (hle : o + vs.length ≤ cs.length) (hi : (P.info? T).map (·.size) = some vs.length) (h1 : ∀ u ∈ vs, u.oneCell' = true) :
    (execOp ρ op).run P w = .ok .skip (w.setCells b o vs) := by
  unfold execOp
  rw [ho]
  simp only [hx]
  have := run_storeAt_cells (P := P) o T (ρ y) vs cs hv hk hle hi h1
  simp [this]
theorem wpList_store_cells {ops : Array Oper} {rest : List Oper} {op : Oper} {a : Act} {Q : Exit → Act → World → Prop} {x y : Operand} {T : TypeId} (b o : Nat) (vs cs : List Value) (hgd : op.guard = none) (ho : op.op = .store T x y) (hx : a.eval x = .pointer (some ⟨b, o, none⟩)) (hv : (a.eval y).cells = vs.toArray) (hk : w.heap[b]? = some (.cells cs.toArray ty (0, 0))) (hle : o + vs.length ≤ cs.length) (hi : (P.info? T).map (·.size) = some vs.length) (h1 : ∀ u ∈ vs, u.oneCell' = true)
    (h : wpList P ops Q rest (a.put op.dst undef) (w.setCells b o vs)) : wpList P ops Q (op :: rest) a w := by
  refine wpList_plain hgd fun K hK => ?_
  unfold Oper.wp
  rw [exec_store ho hx hv hk hle hi h1]
  exact hK _ _ h
end

end Go.Proofs.YtckbckdaffdjmaaDoor

/- keep, where it writes only at the end. -/
namespace Go.Proofs.YtckbckdaffdjmaaDoor
open Go.RowKit
set_option maxRecDepth 100000
set_option linter.unusedVariables false
set_option linter.unusedSimpArgs false

/-- One list more, kept as it came. -/
theorem Bk3.late_more {w w' : World} {b : Nat} {own : Nat → Nat} {v0 v2 v3 u2 u3 x y : Value} {K0 K2 K3 : List Value} {Ws : List (List UInt64)} {l : List UInt64}
    (h : Bk3 w b own true 0 v0 v2 v3 K0 K2 K3 Ws) (hx : ∀ g, x.ownBlock = some g → g < w.heap.size ∧ own g = 0)
    (hm : Mod (fun k => k = b ∨ v2.ownBlock = some k ∨ v3.ownBlock = some k) w w') (hblk : Rw w' b 31 [v0, .bool true, u2, u3]) (h2 : VU 0 w' u2 (K2 ++ [x])) (h3 : VU 0 w' u3 (K3 ++ [y]))
    (hxo : OU 0 w' x l) (hl : l.length + 80 ≤ 17592186044416) (hy : OU w.heap.size w' y l)
    (hb2 : u2.ownBlock = v2.ownBlock ∨ ∃ g, u2.ownBlock = some g ∧ w.heap.size ≤ g ∧ y.ownBlock ≠ some g)
    (hb3 : u3.ownBlock = v3.ownBlock ∨ ∃ g, u3.ownBlock = some g ∧ w.heap.size ≤ g ∧ y.ownBlock ≠ some g ∧ u2.ownBlock ≠ some g) :
    ∃ own', Bk3 w' b own' true 0 v0 u2 u3 K0 (K2 ++ [x]) (K3 ++ [y]) (Ws ++ [l]) ∧ (∀ k, k < w.heap.size → own' k = if x.ownBlock = some k then 10 + K2.length else own k) := by
  obtain ⟨f, hf⟩ : ∃ f : Nat → Nat, ∀ k, f k = if x.ownBlock = some k then 10 + K2.length else if u2.ownBlock = some k then 3 else if u3.ownBlock = some k then 4 else if y.ownBlock = some k then 8 else if k < w.heap.size then own k else 0 := ⟨_, fun _ => rfl⟩
  have hlow : ∀ k, k < w.heap.size → f k = if x.ownBlock = some k then 10 + K2.length else own k := fun k hk => by
    rw [hf]
    by_cases ex : x.ownBlock = some k
    · rw [if_pos ex, if_pos ex]
    rw [if_neg ex, if_neg ex]
    by_cases e2 : u2.ownBlock = some k
    · rw [if_pos e2]
      rcases hb2 with e | ⟨g, e, hg, _⟩
      · exact (h.t2 k (e ▸ e2)).symm
      · rw [e] at e2; injection e2 with e2; omega
    rw [if_neg e2]
    by_cases e3 : u3.ownBlock = some k
    · rw [if_pos e3]
      rcases hb3 with e | ⟨g, e, hg, _⟩
      · exact (h.t3 k (e ▸ e3)).symm
      · rw [e] at e3; injection e3 with e3; omega
    rw [if_neg e3, if_neg (fun e => by have := (hy.lt k e).1; omega), if_pos hk]
  have keepT : ∀ k t, k < w.heap.size → own k = t → t ≠ 0 → f k = t := fun k t hk ht h1 => by
    rw [hlow k hk, if_neg, ht]
    intro e
    have := (hx k e).2
    omega
  have nf : ∀ k, own k ≠ 0 → own k ≠ 1 → own k ≠ 3 → own k ≠ 4 → ¬ (k = b ∨ v2.ownBlock = some k ∨ v3.ownBlock = some k) := fun k a1 a2 a3 a4 e => by
    rcases e with e | e | e
    · exact a2 (by rw [e]; exact h.tb)
    · exact a3 (h.t2 k e)
    · exact a4 (h.t3 k e)
  refine ⟨f, ⟨hblk, ?_, h2, h3, ?_, ?_, ?_, ?_, h.even, ?_, by simp [h.l2], by simp [h.l3], ?_, ?_, ?_⟩, hlow⟩
  · exact h.r0.mod hm fun g e => nf g (by rw [h.t0 g e]; decide) (by rw [h.t0 g e]; decide) (by rw [h.t0 g e]; decide) (by rw [h.t0 g e]; decide)
  · exact keepT b 1 (heap_lt h.blk) h.tb (by decide)
  · intro g e; exact keepT g 2 (h.r0.lt g e).2 (h.t0 g e) (by decide)
  · intro g e
    rcases hb2 with e1 | ⟨g', e1, hg, hyg⟩
    · rw [e1] at e
      exact keepT g 3 (h.r2.lt g e).2 (h.t2 g e) (by decide)
    · rw [hf, if_neg, if_pos e]
      intro ex
      have := (hx g ex).1
      rw [e1] at e; injection e with e; omega
  · intro g e
    rcases hb3 with e1 | ⟨g', e1, hg, hyg, hug⟩
    · rw [e1] at e
      exact keepT g 4 (h.r3.lt g e).2 (h.t3 g e) (by decide)
    · have hgg : g' = g := by rw [e1] at e; injection e
      subst hgg
      rw [hf, if_neg, if_neg hug, if_pos e]
      intro ex
      have := (hx g' ex).1
      omega
  · intro i v hv
    obtain ⟨m, h1, h2⟩ := h.marked i v hv
    exact ⟨m, h1.mod hm (fun _ g e => nf g (by rw [(h2 g e).2]; decide) (by rw [(h2 g e).2]; decide) (by rw [(h2 g e).2]; decide) (by rw [(h2 g e).2]; decide)), fun g e => ⟨Nat.lt_of_lt_of_le (h2 g e).1 hm.size, keepT g 9 (h2 g e).1 (h2 g e).2 (by decide)⟩⟩
  · intro i v m hi hv hl'
    have hL := h.l2
    by_cases hi2 : i < K2.length
    · rw [List.getElem?_append_left hi2] at hv
      rw [List.getElem?_append_left (by omega)] at hl'
      obtain ⟨h1, h2, h3⟩ := h.raw i v m (by omega) hv hl'
      exact ⟨h1.mod hm (fun g e => nf g (by rw [h3 g e]; omega) (by rw [h3 g e]; omega) (by rw [h3 g e]; omega) (by rw [h3 g e]; omega)), h2, fun g e => keepT g (10 + i) (h1.lt g e).2 (h3 g e) (by omega)⟩
    · have hi3 : i = K2.length := by
        have := (List.getElem?_eq_some_iff.1 hv).1
        rw [List.length_append, List.length_singleton] at this
        omega
      subst hi3
      rw [List.getElem?_append_right (Nat.le_refl _), Nat.sub_self, List.getElem?_cons_zero] at hv
      rw [List.getElem?_append_right (by omega), show K2.length - Ws.length = 0 by omega, List.getElem?_cons_zero] at hl'
      injection hv with hv; injection hl' with hl'
      subst hv hl'
      exact ⟨hxo, hl, fun g e => by rw [hlow g (hx g e).1, if_pos e]⟩
  · intro i v m hi hv hl'
    have hL := h.l3
    by_cases hi2 : i < K3.length
    · rw [List.getElem?_append_left hi2] at hv
      rw [List.getElem?_append_left (by omega)] at hl'
      obtain ⟨h1, h2⟩ := h.was i v m (by omega) hv hl'
      exact ⟨h1.mod hm (fun _ g e => nf g (by rw [(h2 g e).2]; decide) (by rw [(h2 g e).2]; decide) (by rw [(h2 g e).2]; decide) (by rw [(h2 g e).2]; decide)), fun g e => ⟨Nat.lt_of_lt_of_le (h2 g e).1 hm.size, keepT g 8 (h2 g e).1 (h2 g e).2 (by decide)⟩⟩
    · have hi3 : i = K3.length := by
        have := (List.getElem?_eq_some_iff.1 hv).1
        rw [List.length_append, List.length_singleton] at this
        omega
      subst hi3
      rw [List.getElem?_append_right (Nat.le_refl _), Nat.sub_self, List.getElem?_cons_zero] at hv
      rw [List.getElem?_append_right (by omega), show K3.length - Ws.length = 0 by omega, List.getElem?_cons_zero] at hl'
      injection hv with hv; injection hl' with hl'
      subst hv hl'
      refine ⟨hy.ru, fun g e => ⟨(hy.lt g e).2, ?_⟩⟩
      have hyg := (hy.lt g e).1
      rw [hf, if_neg (fun ex => by have := (hx g ex).1; omega), if_neg, if_neg, if_pos e]
      · intro e3
        rcases hb3 with e1 | ⟨g', e1, hg, hyg', hug⟩
        · rw [e1] at e3; have := (h.r3.lt g e3).2; omega
        · rw [e1] at e3; injection e3 with e3; subst e3; exact hyg' e
      · intro e2
        rcases hb2 with e1 | ⟨g', e1, hg, hyg'⟩
        · rw [e1] at e2; have := (h.r2.lt g e2).2; omega
        · rw [e1] at e2; injection e2 with e2; subst e2; exact hyg' e
  · intro k hk
    have hs := hm.size
    rw [hf, if_neg (fun ex => by have := (hx k ex).1; omega), if_neg (fun e => by have := (h2.lt k e).2; omega), if_neg (fun e => by have := (h3.lt k e).2; omega), if_neg (fun e => by have := (hy.lt k e).2; omega), if_neg (by omega)]
end Go.Proofs.YtckbckdaffdjmaaDoor

/- keep, where it writes only at the end: the walk. -/
namespace Go.Proofs.YtckbckdaffdjmaaDoor
open Go.RowKit
set_option maxRecDepth 100000
set_option linter.unusedVariables false
set_option linter.unusedSimpArgs false

theorem build_noneU {ρ : Operand → Value} {o : Oper} (ho : o.op = .buildSlice 22 0 #[]) (w : World) : (execOp ρ o).run Tryd.prog w = .ok (.value (.slice (some ⟨w.heap.size, 0, none⟩) 0 0)) (w.alloc (.cells #[] 58)) := by
  unfold execOp
  rw [ho]
  kernel_rfl
theorem build_oneU {ρ : Operand → Value} {o : Oper} {x : Operand} {u : Value} (ho : o.op = .buildSlice 29 1 #[(0, x)]) (hx : ρ x = u) (hu : ∃ p n c, u = .slice p n c) (w : World) : (execOp ρ o).run Tryd.prog w = .ok (.value (.slice (some ⟨w.heap.size, 0, none⟩) 1 1)) (w.alloc (.cells #[u] 22)) := by
  obtain ⟨p, n, c, rfl⟩ := hu
  have h1 : (Instr.buildSlice 29 1 #[(0, .slice p n c)]).run Tryd.prog w = .ok (.slice (some ⟨w.heap.size, 0, none⟩) 1 1) (w.alloc (.cells #[.slice p n c] 22)) := by kernel_rfl
  unfold execOp
  rw [ho]
  simp [hx, h1]
/-- The drawn region of keep: what holds behind as many writers as the list is long. -/
def RLk (w0 : World) (v3 : Value) (K3 : List Value) (l : List UInt64) : List Value → World → Prop
  | [], w => Below w0.heap.size w0 w
  | [e], w => Below w0.heap.size w0 w ∧ OU w0.heap.size w e []
  | [e, y], w => Below w0.heap.size w0 w ∧ OU w0.heap.size w y l
  | [e, y, s], w => Below w0.heap.size w0 w ∧ OU w0.heap.size w y l ∧ ∃ a, s = .slice (some ⟨a, 0, none⟩) 1 1 ∧ a < w.heap.size ∧ w.cell? ⟨a, 0, none⟩ = some y
  | e :: y :: s :: u :: _, w => VU 0 w u (K3 ++ [y]) ∧ OU w0.heap.size w y l ∧ Mod (fun k => v3.ownBlock = some k) w0 w ∧ (u.ownBlock = v3.ownBlock ∨ ∃ g, u.ownBlock = some g ∧ w0.heap.size ≤ g ∧ y.ownBlock ≠ some g)
theorem RLk.mod {w0 w : World} {v3 : Value} {K3 : List Value} {l : List UInt64} {g : List Value} (h : RLk w0 v3 K3 l g w) : Mod (fun k => v3.ownBlock = some k) w0 w := by
  match g, h with
  | [], h => exact Mod.of_below h
  | [e], h => exact Mod.of_below h.1
  | [e, y], h => exact Mod.of_below h.1
  | [e, y, s], h => exact Mod.of_below h.1
  | e :: y :: s :: u :: _, h => exact h.2.2.1
set_option maxHeartbeats 8000000 in
theorem keep_late3 {w : World} {b : Nat} {own : Nat → Nat} {v0 v2 v3 : Value} {K0 K2 K3 : List Value} {Ws : List (List UInt64)} (hb : Bk3 w b own true 0 v0 v2 v3 K0 K2 K3 Ws) (hN : K2.length + 1 ≤ 5864062014805) {x : Value} {l : List UInt64} (hx : OU 0 w x l) (hl : l.length + 80 ≤ 17592186044416)
    (ht : ∀ g, x.ownBlock = some g → own g = 0) :
    Calls Tryd.prog 23 #[.pointer (some ⟨b, 0, none⟩), x] w fun e w' => e = .returned (.tuple #[]) ∧ ∃ own' u2 u3 y, Bk3 w' b own' true 0 v0 u2 u3 K0 (K2 ++ [x]) (K3 ++ [y]) (Ws ++ [l]) ∧ (∀ k, k < w.heap.size → own' k = if x.ownBlock = some k then 10 + K2.length else own k) ∧ Mod (fun k => k = b ∨ v2.ownBlock = some k ∨ v3.ownBlock = some k) w w' := by
  obtain ⟨p2, cp2, e2⟩ := hb.r2.form
  obtain ⟨p3, cp3, e3⟩ := hb.r3.form
  obtain ⟨q, c, hxe⟩ := hx.ru.form
  have hxb : ∀ g, x.ownBlock = some g → g < w.heap.size ∧ own g = 0 := fun g e => ⟨(hx.lt g e).2, ht g e⟩
  have lb := heap_lt hb.blk
  have c1 := hb.blk.cell (i := 1) rfl
  have c2 := hb.blk.cell (i := 2) rfl
  have hba := below_alloc1 w (.cells #[x] 22)
  have hra := hb.r2.mod (F := fun _ => False) (Mod.of_below hba) (fun _ _ => id)
  have HB := Lib.hid hb
  have HX := Lib.hid hx
  have HN := Lib.hid hN
  have HL := Lib.hid hl
  have HXB := Lib.hid hxb
  have HBA := Lib.hid hba
  have HRA := Lib.hid hra
  clear hb hx hN hl hxb ht hba hra
  obtain ⟨L, hL⟩ : ∃ L, L = l.length := ⟨_, rfl⟩
  rw [← hL] at hxe
  have HLL := Lib.hid hL
  clear hL
  subst hxe
  rw [e2] at c2
  go_enter Tryd.func23, Tryd.ntmps23
  go_upto_region 2 with (first
    | (at_builtin
       refine wpList_append_VU (v := v2) rfl (.tmp 16) (.tmp 18) rfl rfl w.heap.size e2.symm rfl HRA.out (cell_one _ _ _) rfl HN.out (Nat.zero_le _) ?_
       intro u2 w2 hu2 hg2 hat2
       have hblk2 : Rw w2 b 31 [v0, .bool true, v2, v3] := (HB.out.blk.below HBA.out).mod (F := fun k => v2.ownBlock = some k) (Mod.grown hg2 fun k e _ => e) (fun e => by have h1 := HB.out.t2 b e; rw [HB.out.tb] at h1; cases h1)
       have d2 := hblk2.cell (i := 2) rfl
       have f2 := hblk2.frozen 2
       have HU2 := Lib.hid hu2
       have HG2 := Lib.hid hg2
       have HA2 := Lib.hid hat2
       have HB2 := Lib.hid hblk2
       obtain ⟨pu2, cu2, eu2⟩ := hu2.form
       clear hu2 hg2 hat2 hblk2
       rw [List.length_append, List.length_singleton] at eu2
       have EU2 := Lib.hid eu2
       rw [eu2])
    | fail)
  rw [← EU2.out]
  obtain ⟨w3, hw3⟩ : ∃ w3, w3 = w2.setCell ⟨b, 2, none⟩ u2 := ⟨_, rfl⟩
  have hx1 : (w.alloc (.cells #[Value.slice q L c] 22)).heap.size = w.heap.size + 1 := by simp
  have hu2b : ∀ g, u2.ownBlock = some g → v2.ownBlock = some g ∨ w.heap.size < g := fun g e => by
    rcases HA2.out with e1 | e1
    · exact .inl (e1 ▸ e)
    · rw [e1, hx1] at e; injection e with e; exact .inr (by omega)
  have hu2n : ∀ g, u2.ownBlock = some g → g ≠ b := fun g e e' => by
    rcases hu2b g e with e1 | e1
    · have h1 := HB.out.t2 g e1; rw [e', HB.out.tb] at h1; cases h1
    · omega
  have hm3 : Mod (fun k => k = b ∨ v2.ownBlock = some k) w w3 := by
    rw [hw3]
    exact (Mod.of_below HBA.out).trans ((Mod.grown HG2.out fun k e _ => .inr e).trans (Mod.setCell _ _ _ _ (.inl rfl)))
  have hblk3 : Rw w3 b 31 [v0, .bool true, u2, v3] := by rw [hw3]; exact HB2.out.set 2 u2
  have hu3 : VU 0 w3 u2 (K2 ++ [Value.slice q L c]) := by rw [hw3]; exact HU2.out.mod (F := fun k => k = b) (Mod.setCell _ _ _ _ rfl) hu2n
  have hv3 : VU 0 w3 v3 K3 := HB.out.r3.mod hm3 (fun g e e' => by
    have h1 := HB.out.t3 g e
    rcases e' with e' | e'
    · rw [e', HB.out.tb] at h1; cases h1
    · rw [HB.out.t2 g e'] at h1; cases h1)
  have hxo3 : OU 0 w3 (Value.slice q L c) l := HX.out.mod hm3 (fun g e e' => by
    have h1 := (HXB.out g e).2
    rcases e' with e' | e'
    · rw [e', HB.out.tb] at h1; cases h1
    · rw [HB.out.t2 g e'] at h1; cases h1)
  have hv3b : ∀ g, v3.ownBlock = some g → g ≠ b ∧ g < w.heap.size ∧ u2.ownBlock ≠ some g ∧ (Value.slice q L c).ownBlock ≠ some g := fun g e => by
    have h1 := HB.out.t3 g e
    have h2 := (HB.out.r3.lt g e).2
    refine ⟨fun e' => ?_, h2, fun e' => ?_, fun e' => ?_⟩
    · rw [e', HB.out.tb] at h1; cases h1
    · rcases hu2b g e' with e1 | e1
      · rw [HB.out.t2 g e1] at h1; cases h1
      · omega
    · have := (HXB.out g e').2; omega
  rw [← hw3]
  have lb3 : b < w3.heap.size := Nat.lt_of_lt_of_le lb hm3.size
  have HM3 := Lib.hid hm3
  have HBK3 := Lib.hid hblk3
  have HU3 := Lib.hid hu3
  have HV3 := Lib.hid hv3
  have HXO3 := Lib.hid hxo3
  have HV3B := Lib.hid hv3b
  have HU2N := Lib.hid hu2n
  have HU2B := Lib.hid hu2b
  have HE3 := Lib.hid e3
  clear hm3 hblk3 hu3 hv3 hxo3 hv3b hu2n hu2b hx1 hw3 c1 c2 d2 f2
  have hcl : ∀ g w', RLk w3 v3 K3 l g w' → w'.cell? ⟨b, 3, none⟩ = some (.slice p3 K3.length cp3) := fun g w' h => by
    rw [← HE3.out]
    exact (HBK3.out.mod (RLk.mod h) (fun e => (HV3B.out b e).1 rfl)).cell (i := 3) rfl
  refine Ph.wp_region_P (RLk w3 v3 K3 l) (fun i => i == 5 || i == 7 || i == 8 || i == 9) 10 [0, 1, 2, 3, 4, 6, 5, 7, 8, 9] (by kernel_rfl) (by kernel_rfl) (Below.drew (Below.refl _ _)) ?_
  (repeat (first | (refine Ph.wpP_pass rfl rfl rfl ?_; (try simp only [List.getElem_toArray, List.getElem_cons_succ, List.getElem_cons_zero, Act.put, List.setIfInBounds_toArray, List.set_cons_succ, List.set_cons_zero])) | (apply Ph.wpP_val rfl rfl rfl; (focus (intro t w1 hR; have hc := hcl _ _ hR; (try simp only [List.getElem_toArray, List.getElem_cons_succ, List.getElem_cons_zero]); (try go_simp); (try exact Eq.refl _); done)); (try simp only [List.getElem_toArray, List.getElem_cons_succ, List.getElem_cons_zero, Act.put, List.setIfInBounds_toArray, List.set_cons_succ, List.set_cons_zero])) | (apply Ph.wpP_val_want rfl rfl rfl; (focus (intro t w1 hR; have hc := hcl _ _ hR; (try simp only [List.getElem_toArray, List.getElem_cons_succ, List.getElem_cons_zero]); (try go_simp); (try exact Eq.refl _); done)); (try simp only [List.getElem_toArray, List.getElem_cons_succ, List.getElem_cons_zero, Act.put, List.setIfInBounds_toArray, List.set_cons_succ, List.set_cons_zero]))))
  refine Ph.wpP_write rfl rfl rfl (fun w1 hR => ⟨_, _, build_noneU rfl w1, hR.alloc hR.size _, ?_⟩) ?_
  · exact OU.new w1 #[] [] rfl (by decide) hR.size
  rintro e w1' hR1
  clear hR1 w1'
  (try simp only [List.getElem_toArray, List.getElem_cons_succ, List.getElem_cons_zero, Act.put, List.setIfInBounds_toArray, List.set_cons_succ, List.set_cons_zero])
  refine Ph.wpP_write rfl rfl rfl (fun w1 hR => ?_) ?_
  · obtain ⟨hb1, he1⟩ := hR
    obtain ⟨y, w', hrun, hy, hg, hat⟩ := run_append_OU he1 (HXO3.out.ru.below hb1) (by have := HL.out; simp; omega) hb1.size
    exact ⟨y, w', Og.exec_append rfl hrun, hb1.grown hg hb1.size (fun k e => (he1.lt k e).1), by simpa using hy⟩
  rintro y w1' hR1
  clear hR1 w1'
  (try simp only [List.getElem_toArray, List.getElem_cons_succ, List.getElem_cons_zero, Act.put, List.setIfInBounds_toArray, List.set_cons_succ, List.set_cons_zero])
  refine Ph.wpP_write rfl rfl rfl (fun w1 hR => ?_) ?_
  · obtain ⟨hb1, hy1⟩ := hR
    have hba := below_alloc1 w1 (.cells #[y] 22)
    exact ⟨_, _, build_oneU (u := y) rfl rfl (by obtain ⟨p, c, e⟩ := hy1.ru.form; exact ⟨p, _, c, e⟩) w1, hb1.trans (hba.mono hb1.size), hy1.below hba, w1.heap.size, rfl, by simp, cell_one _ _ _⟩
  rintro s w1' hR1
  clear hR1 w1'
  (try simp only [List.getElem_toArray, List.getElem_cons_succ, List.getElem_cons_zero, Act.put, List.setIfInBounds_toArray, List.set_cons_succ, List.set_cons_zero])
  refine Ph.wpP_write rfl rfl rfl (fun w1 hR => ?_) ?_
  · obtain ⟨hb1, hy1, a, rfl, ha, hca⟩ := hR
    have hy1n : y.oneCell' = true := by obtain ⟨p, c, e⟩ := hy1.ru.form; rw [e]; rfl
    obtain ⟨u, w', hrun, hu, hg, hat⟩ := (HV3.out.mod (F := fun _ => False) (Mod.of_below hb1) (fun _ _ => id)).append hca hy1n (by have := HN.out; have := HB.out.l2; have := HB.out.l3; omega) (Nat.zero_le _)
    rw [HE3.out] at hrun
    refine ⟨u, w', Og.exec_append rfl hrun, hu, hy1.kept hg (fun g e e' => ?_), (Mod.of_below hb1).trans (Mod.grown hg fun k e _ => e), ?_⟩
    · have h1 := (hy1.lt g e).1
      have h2 := (HV3.out.lt g e').2
      omega
    · rcases hat with e | e
      · exact .inl e
      · refine .inr ⟨_, e, hb1.size, fun e' => ?_⟩
        have := (hy1.lt _ e').2
        omega
  rintro u w1' hR1
  clear hR1 w1'
  (try simp only [List.getElem_toArray, List.getElem_cons_succ, List.getElem_cons_zero, Act.put, List.setIfInBounds_toArray, List.set_cons_succ, List.set_cons_zero])
  refine Ph.wpP_nil ?_
  rintro w4 ⟨hu4, hy4, hm4, hat4⟩
  have hblk4 := HBK3.out.mod hm4 (fun e => (HV3B.out b e).1 rfl)
  have c4 := hblk4.cell (i := 3) rfl
  have f4 := hblk4.frozen 3
  obtain ⟨pu, cu, eu⟩ := hu4.form
  have lb4 : b < w4.heap.size := Nat.lt_of_lt_of_le lb3 hm4.size
  have HU4 := Lib.hid hu4
  have HY4 := Lib.hid hy4
  have HM4 := Lib.hid hm4
  have HA4 := Lib.hid hat4
  have HBK4 := Lib.hid hblk4
  obtain ⟨nu, hnu⟩ : ∃ nu, nu = (K3 ++ [y]).length := ⟨_, rfl⟩
  rw [← hnu] at eu
  have HEU := Lib.hid eu
  clear hu4 hy4 hm4 hat4 hblk4 hcl hnu
  rw [HE3.out] at c4
  rw [eu]
  clear eu
  go_wp2_with fail
  refine bodyPost_ret (results_none rfl _ _ _) rfl ?_
  rw [← HEU.out]
  have hb := HB.out
  obtain ⟨w5, hw5⟩ : ∃ w5, w5 = w4.setCell ⟨b, 3, none⟩ u := ⟨_, rfl⟩
  rw [← hw5]
  have hub : ∀ g, u.ownBlock = some g → v3.ownBlock = some g ∨ (w3.heap.size ≤ g ∧ y.ownBlock ≠ some g) := fun g e => by
    rcases HA4.out with e1 | ⟨g', e1, h1, h2⟩
    · exact .inl (e1 ▸ e)
    · rw [e1] at e; injection e with e; subst e; exact .inr ⟨h1, h2⟩
  have hs3 := HM3.out.size
  have hun : ∀ g, u.ownBlock = some g → g ≠ b := fun g e e' => by
    rcases hub g e with e1 | e1
    · exact (HV3B.out g e1).1 e'
    · have := e1.1; omega
  have hm35 : Mod (fun k => k = b ∨ v3.ownBlock = some k) w3 w5 := by
    rw [hw5]
    exact (HM4.out.mono fun _ _ e => .inr e).trans (Mod.setCell _ _ _ _ (.inl rfl))
  have hm45 : Mod (fun k => k = b) w4 w5 := by rw [hw5]; exact Mod.setCell _ _ _ _ rfl
  have hmw : Mod (fun k => k = b ∨ v2.ownBlock = some k ∨ v3.ownBlock = some k) w w5 :=
    (HM3.out.mono fun k _ e => e.elim .inl fun e => .inr (.inl e)).trans (hm35.mono fun k _ e => e.elim .inl fun e => .inr (.inr e))
  have hblk5 : Rw w5 b 31 [v0, .bool true, u2, u] := by rw [hw5]; exact HBK4.out.set 3 u
  have hu5 : VU 0 w5 u (K3 ++ [y]) := HU4.out.mod hm45 hun
  have hu25 : VU 0 w5 u2 (K2 ++ [Value.slice q L c]) := HU3.out.mod hm35 fun g e e' => by
    rcases e' with e' | e'
    · exact HU2N.out g e e'
    · exact (HV3B.out g e').2.2.1 e
  have hx5 : OU 0 w5 (Value.slice q L c) l := HXO3.out.mod hm35 fun g e e' => by
    rcases e' with e' | e'
    · have := (HXB.out g e).2; rw [e', hb.tb] at this; cases this
    · exact (HV3B.out g e').2.2.2 e
  have hyg : ∀ g, y.ownBlock = some g → w3.heap.size ≤ g := fun g e => (HY4.out.lt g e).1
  have hy5 : OU w.heap.size w5 y l := (HY4.out.more hs3).mod hm45 fun g e e' => by have := hyg g e; omega
  obtain ⟨own', h1, h2⟩ := hb.late_more HXB.out hmw hblk5 hu25 hu5 hx5 HL.out hy5 (by
      rcases HA2.out with e | e
      · exact .inl e
      · refine .inr ⟨_, e, HBA.out.size, fun e' => ?_⟩
        have h1 := hyg _ e'
        have h2 := (HU3.out.lt _ e).2
        omega) (by
      rcases HA4.out with e | ⟨g, e, h1, h2⟩
      · exact .inl e
      · refine .inr ⟨g, e, by omega, h2, fun e' => ?_⟩
        have := (HU3.out.lt _ e').2
        omega)
  exact ⟨rfl, own', u2, u, y, h1, h2, hmw⟩
/-- keep, late: as the Book from outside is told. -/
theorem keepC_late : KeepC true := by
  constructor
  intro w b N own x l h hx hl hf hN
  obtain ⟨ow, N0, N2, ⟨v0, v2, v3, K0, K2, K3, Ws, hb, hN0, hN2⟩, ho, hn, -, h0⟩ := h
  have h0' := h0 rfl
  subst hN0 hN2
  refine (keep_late3 hb (by omega) hx hl fun g e => ?_).mono ?_
  · have := hf g e
    rw [ho] at this
    exact Decidable.not_not.1 this
  · rintro e w' ⟨rfl, ow', u2, u3, y, hk, hlow, hm⟩
    refine ⟨rfl, fun k => ow' k ≠ 0, ⟨ow', K0.length, _, ⟨v0, u2, u3, K0, _, _, _, hk, rfl, rfl⟩, fun k => Iff.rfl, by simp; omega, fun e => (by cases e), fun _ => h0'⟩, fun k hkk => ?_, hm.mono fun k _ e => ?_⟩
    · show ow' k ≠ 0 ↔ _
      rw [hlow k hkk, ho]
      by_cases e : x.ownBlock = some k
      · simp [e]
      · simp [e]
    · left
      rw [ho]
      rcases e with e | e | e
      · rw [e, hb.tb]; decide
      · rw [hb.t2 k e]; decide
      · rw [hb.t3 k e]; decide
end Go.Proofs.YtckbckdaffdjmaaDoor

/- settled. -/
namespace Go.Proofs.YtckbckdaffdjmaaDoor
open Go.RowKit
set_option maxRecDepth 100000
set_option linter.unusedVariables false
set_option linter.unusedSimpArgs false

/-- What kept asks of the Book, from outside. -/
theorem Bk3.keptP {w : World} {b cur : Nat} {own : Nat → Nat} {late : Bool} {v0 v2 v3 : Value} {K0 K2 K3 : List Value} {Ws : List (List UInt64)} (h : Bk3 w b own late cur v0 v2 v3 K0 K2 K3 Ws) (hc : cur = 0) (h0 : K0.length ≤ 5864062014805) (h2 : K2.length ≤ 5864062014805) : KeptP w b late v0 v2 v3 K0 K2 K3 := by
  subst hc
  refine ⟨h.blk, h.r0, h.r2, h.r3, by rw [h.l2, h.l3], fun i v u hv hu => ?_, fun i v hv => ?_, h0, h2⟩
  · have hi := (List.getElem?_eq_some_iff.1 hv).1
    obtain ⟨l, hl⟩ : ∃ l, Ws[i]? = some l := ⟨_, List.getElem?_eq_getElem (by rw [← h.l2]; exact hi)⟩
    exact ⟨l, l, (h.raw i v l (Nat.zero_le _) hv hl).1.ru, (h.was i u l (Nat.zero_le _) hu hl).1, fun _ => rfl⟩
  · obtain ⟨n, h1, _⟩ := h.marked i v hv
    exact ⟨n, h1⟩
theorem Bok.kept {w : World} {b N : Nat} {own : Nat → Prop} {late : Bool} (h : Bok w b own late N) (hN : N ≤ 5864062014805) : Pur Tryd.prog 24 #[.pointer (some ⟨b, 0, none⟩)] w (.bool true) := by
  obtain ⟨ow, N0, N2, ⟨v0, v2, v3, K0, K2, K3, Ws, hb, hN0, hN2⟩, ho, hn, hl, h0⟩ := h
  exact kept_calls (hb.keptP rfl (by omega) (by omega))
/-- The Book, no longer late. -/
theorem Bk3.unlate {w : World} {b cur : Nat} {own : Nat → Nat} {late : Bool} {v0 v2 v3 : Value} {K0 K2 K3 : List Value} {Ws : List (List UInt64)} (h : Bk3 w b own late cur v0 v2 v3 K0 K2 K3 Ws) :
    Bk3 (w.setCell ⟨b, 1, none⟩ (.bool false)) b own false cur v0 v2 v3 K0 K2 K3 Ws := by
  have hm : Mod (fun k => k = b) w (w.setCell ⟨b, 1, none⟩ (.bool false)) := Mod.setCell _ _ _ _ rfl
  have nf : ∀ k, own k ≠ 1 → ¬ k = b := fun k a e => a (by rw [e]; exact h.tb)
  refine ⟨h.blk.set 1 (.bool false), h.r0.mod hm (fun g e => nf g (by rw [h.t0 g e]; decide)), h.r2.mod hm (fun g e => nf g (by rw [h.t2 g e]; decide)), h.r3.mod hm (fun g e => nf g (by rw [h.t3 g e]; decide)), h.tb, h.t0, h.t2, h.t3, h.even, fun i v hv => ?_, h.l2, h.l3, fun i v l hi hv hl => ?_, fun i v l hi hv hl => ?_, fun k hk => h.hi k (Nat.le_trans hm.size hk)⟩
  · obtain ⟨n, h1, h2⟩ := h.marked i v hv
    exact ⟨n, h1.mod hm (fun _ g e => nf g (by rw [(h2 g e).2]; decide)), fun g e => ⟨Nat.lt_of_lt_of_le (h2 g e).1 hm.size, (h2 g e).2⟩⟩
  · obtain ⟨h1, h2, h3⟩ := h.raw i v l hi hv hl
    exact ⟨h1.mod hm (fun g e => nf g (by rw [h3 g e]; omega)), h2, h3⟩
  · obtain ⟨h1, h2⟩ := h.was i v l hi hv hl
    exact ⟨h1.mod hm (fun _ g e => nf g (by rw [(h2 g e).2]; decide)), fun g e => ⟨Nat.lt_of_lt_of_le (h2 g e).1 hm.size, (h2 g e).2⟩⟩
/-- Behind i of the lists. -/
structure SetP (w w' : World) (b : Nat) (own : Nat → Nat) (v2 v3 : Value) (K2 K3 : List Value) (Ws : List (List UInt64)) (i : Nat) (own' : Nat → Nat) (v0 : Value) (K0 : List Value) : Prop where
  bk : Bk3 w' b own' false i v0 v2 v3 K0 K2 K3 Ws
  len : K0.length = 2 * i
  old : ∀ (j : Nat) (v : Value), j < i → K2[j]? = some v → ∃ l, RU w' v l ∧ ∀ g, v.ownBlock = some g → g < w'.heap.size ∧ own' g = 9
  was : ∀ (j : Nat) (u : Value), K3[j]? = some u → ∃ l, RU w' u l ∧ ∀ g, u.ownBlock = some g → g < w'.heap.size ∧ own' g = 8
  low : ∀ k, k < w.heap.size → own' k ≠ 0 → own k ≠ 0
  mod : Mod (fun k => own k ≠ 0) w w'
theorem SetP.next {w w' w1 : World} {b : Nat} {own own' own1 : Nat → Nat} {v0 v2 v3 u x y : Value} {K0 K2 K3 : List Value} {Ws : List (List UInt64)} {i : Nat} {l : List UInt64} (h : SetP w w' b own v2 v3 K2 K3 Ws i own' v0 K0) (hx : K2[i]? = some x) (hl : Ws[i]? = some l)
    (h1 : Bk3 w1 b own1 false (i + 1) u v2 v3 (K0 ++ [x, y]) K2 K3 Ws) (h2 : ∀ k, k < w'.heap.size → own1 k = if x.ownBlock = some k then 9 else own' k) (h3 : Mod (fun k => k = b ∨ v0.ownBlock = some k ∨ x.ownBlock = some k) w' w1) :
    SetP w w1 b own v2 v3 K2 K3 Ws (i + 1) own1 u (K0 ++ [x, y]) := by
  obtain ⟨hxo, hxl, hxt⟩ := h.bk.raw i x l (Nat.le_refl _) hx hl
  have nf : ∀ k t, own' k = t → t = 8 ∨ t = 9 → ¬ (k = b ∨ v0.ownBlock = some k ∨ x.ownBlock = some k) := fun k t hk ht e => by
    rcases e with e | e | e
    · rw [e, h.bk.tb] at hk; omega
    · rw [h.bk.t0 k e] at hk; omega
    · rw [hxt k e] at hk; omega
  refine ⟨h1, by rw [List.length_append, h.len]; simp; omega, fun j v hj hv => ?_, fun j v hv => ?_, fun k hk e => ?_, h.mod.on h3 fun k e => ?_⟩
  · rcases Nat.lt_or_ge j i with hji | hji
    · obtain ⟨m, a, c⟩ := h.old j v hji hv
      refine ⟨m, a.mod h3 (fun _ g e => nf g 9 (c g e).2 (.inr rfl)), fun g e => ⟨Nat.lt_of_lt_of_le (c g e).1 h3.size, ?_⟩⟩
      rw [h2 g (c g e).1]
      split
      · rfl
      · exact (c g e).2
    · have : j = i := by omega
      subst this
      rw [hx] at hv
      injection hv with hv
      subst hv
      obtain ⟨n, a, c⟩ := h1.marked (2 * j) x (by rw [← h.len, List.getElem?_append_right (Nat.le_refl _), Nat.sub_self]; rfl)
      exact ⟨_, a, c⟩
  · obtain ⟨m, a, c⟩ := h.was j v hv
    refine ⟨m, a.mod h3 (fun _ g e => nf g 8 (c g e).2 (.inl rfl)), fun g e => ⟨Nat.lt_of_lt_of_le (c g e).1 h3.size, ?_⟩⟩
    rw [h2 g (c g e).1, if_neg, (c g e).2]
    intro e'
    have := hxt g e'
    rw [(c g e).2] at this
    omega
  · have hkw := Nat.lt_of_lt_of_le hk h.mod.size
    refine h.low k hk ?_
    rw [h2 k hkw] at e
    split at e
    · rename_i e'
      rw [hxt k e']; omega
    · exact e
  · rcases Nat.lt_or_ge k w.heap.size with hk | hk
    · left
      refine h.low k hk ?_
      rcases e with e | e | e
      · rw [e, h.bk.tb]; decide
      · rw [h.bk.t0 k e]; decide
      · rw [hxt k e]; omega
    · exact .inr hk
set_option maxHeartbeats 8000000 in
theorem settled3 {w : World} {b : Nat} {own : Nat → Nat} {v0 v2 v3 : Value} {K2 K3 : List Value} {Ws : List (List UInt64)} (hb : Bk3 w b own true 0 v0 v2 v3 [] K2 K3 Ws) (hN : 2 * K2.length ≤ 5864062014805) :
    Calls Tryd.prog 97 #[.pointer (some ⟨b, 0, none⟩)] w fun e w' => e = .returned (.bool true) ∧ Mod (fun k => own k ≠ 0) w w' := by
  have hk := kept_calls (hb.keptP rfl (by simp) (by omega))
  have HK := Lib.hid hk
  have HB := Lib.hid hb
  have HN := Lib.hid hN
  have lb := heap_lt hb.blk
  obtain ⟨p2, cp2, e2⟩ := hb.r2.form
  obtain ⟨M, hM⟩ : ∃ M, M = K2.length := ⟨_, rfl⟩
  rw [← hM] at e2
  have HM := Lib.hid hM
  clear hk hb hN hM
  go_enter Tryd.func97, Tryd.ntmps97
  go_upto_region 2 with (first
    | (go_at_call 24
       refine HK.out.out.mono ?_
       clear HK
       rintro e w1 ⟨rfl, hb1⟩
       have hbk1 : Bk3 w1 b own true 0 v0 v2 v3 [] K2 K3 Ws := HB.out.mod (F := fun _ => False) (Mod.of_below hb1) (fun _ _ e => e.elim)
       have c1 := hbk1.blk.cell (i := 1) rfl
       have f1 := hbk1.blk.frozen 1
       have HB1 := Lib.hid hb1
       have HBK1 := Lib.hid hbk1
       clear hb1 hbk1)
    | fail)
  have hbk2 := HBK1.out.unlate
  obtain ⟨w2, hw2⟩ : ∃ w2, w2 = w1.setCell ⟨b, 1, none⟩ (.bool false) := ⟨_, rfl⟩
  have hm2 : Mod (fun k => own k ≠ 0) w w2 := (Mod.of_below HB1.out).trans (by rw [hw2]; exact Mod.setCell _ _ _ _ (by rw [HB.out.tb]; decide))
  rw [← hw2] at hbk2
  have hset : SetP w w2 b own v2 v3 K2 K3 Ws 0 own v0 [] := by
    refine ⟨hbk2, rfl, fun j v hj => absurd hj (Nat.not_lt_zero _), fun j u hu => ?_, fun k _ e => e, hm2⟩
    obtain ⟨l, hl⟩ : ∃ l, Ws[j]? = some l := ⟨_, List.getElem?_eq_getElem (by rw [← hbk2.l3]; exact (List.getElem?_eq_some_iff.1 hu).1)⟩
    obtain ⟨a, c⟩ := hbk2.was j u l (Nat.zero_le _) hu hl
    exact ⟨l, a, c⟩
  have HS := Lib.hid hset
  have HW2 := Lib.hid hw2
  clear hbk2 hm2 hset hw2
  have lb1 : b < w1.heap.size := Nat.lt_of_lt_of_le lb HB1.out.size
  go_upto_region 3 with fail
  rw [← HW2.out]
  clear c1 f1 HBK1 HW2 lb1 HB1
  go_wp2_with fail
  refine wp_loop_count (fun i a w' => Is (fun U => ⟨#[.pointer (some ⟨b, 0, none⟩), U 1, U 2, .bool true, .int .i64 i, U 5, U 6, U 7, U 8, U 9, U 10, U 11, U 12, U 13, U 14, U 15, U 16, U 17, U 18, U 19, U 20, U 21, U 22, U 23, U 24, U 25, U 26, U 27, U 28, U 29, U 30, U 31, U 32], []⟩) a ∧ ∃ own' v0' K0', SetP w w' b own v2 v3 K2 K3 Ws i own' v0' K0') M ⟨isU (fun U => ⟨#[.pointer (some ⟨b, 0, none⟩), U 1, U 2, .bool true, .int .i64 0, U 5, U 6, U 7, U 8, U 9, U 10, U 11, U 12, U 13, U 14, U 15, U 16, U 17, U 18, U 19, U 20, U 21, U 22, U 23, U 24, U 25, U 26, U 27, U 28, U 29, U 30, U 31, U 32], []⟩) rfl, own, v0, [], HS.out⟩ ?_ ?_
  · clear HS
    rintro i a w3 hi ⟨hU, own', v0', K0', hs⟩
    obtain ⟨U, rfl⟩ := hU.out
    have lb3 := heap_lt hs.bk.blk
    obtain ⟨x, hx⟩ : ∃ x, K2[i]? = some x := ⟨_, List.getElem?_eq_getElem (by rw [← HM.out]; exact hi)⟩
    obtain ⟨l, hl⟩ : ∃ l, Ws[i]? = some l := ⟨_, List.getElem?_eq_getElem (by rw [← hs.bk.l2, ← HM.out]; exact hi)⟩
    obtain ⟨hxo, hxl, hxt⟩ := hs.bk.raw i x l (Nat.le_refl _) hx hl
    have hcall := keep_now3 hs.bk (by have := hs.len; have := HN.out; have := HM.out; omega) hxo hxl (fun g e => .inr (hxt g e))
    obtain ⟨g2, k2, ee2, lg2, cg2⟩ := hs.bk.r2.get hx
    have c2 := hs.bk.blk.cell (i := 2) rfl
    rw [e2] at c2 ee2
    simp only [Value.slice.injEq] at ee2
    obtain ⟨rfl, -, rfl⟩ := ee2
    obtain ⟨px, cx, ex⟩ := hxo.ru.form
    obtain ⟨lx, hlx⟩ : ∃ lx, lx = l.length := ⟨_, rfl⟩
    rw [← hlx] at ex
    subst ex
    have HC := Lib.hid hcall
    have HSI := Lib.hid hs
    have HX := Lib.hid hx
    have HLL := Lib.hid hl
    have hi' : (i : Int) < (M : Int) := by exact_mod_cast hi
    have hi0 : (0 : Int) ≤ (i : Int) := Int.natCast_nonneg i
    have hi9 : (M : Int) ≤ 5864062014805 := by have := HM.out; have := HN.out; omega
    clear hU hs hx hl hxo hxl hxt hcall hlx
    go_wp2_with (first
      | (go_at_call 23
         refine HC.out.mono ?_
         rintro e w4 ⟨rfl, own1, u, y, h1, h2, h3⟩
         have HNX := Lib.hid (HSI.out.next HX.out HLL.out h1 h2 h3)
         clear h1 h2 h3)
      | fail)
    exact ⟨isU (fun U => ⟨#[.pointer (some ⟨b, 0, none⟩), U 1, U 2, .bool true, .int .i64 (i + 1 : Nat), U 5, U 6, U 7, U 8, U 9, U 10, U 11, U 12, U 13, U 14, U 15, U 16, U 17, U 18, U 19, U 20, U 21, U 22, U 23, U 24, U 25, U 26, U 27, U 28, U 29, U 30, U 31, U 32], []⟩) rfl, own1, u, _, HNX.out⟩
  · clear HS
    rintro a w3 ⟨hU, own', v0', K0', hs⟩
    obtain ⟨U, rfl⟩ := hU.out
    have lb3 := heap_lt hs.bk.blk
    have c2 := hs.bk.blk.cell (i := 2) rfl
    have hkp : KeptP w3 b false v0' v2 v3 K0' K2 K3 := by
      refine ⟨hs.bk.blk, hs.bk.r0, hs.bk.r2, hs.bk.r3, by rw [hs.bk.l2, hs.bk.l3], fun j v u hv hu => ?_, fun j v hv => ?_, by have := hs.len; have := HN.out; have := HM.out; omega, by have := HN.out; omega⟩
      · obtain ⟨l, a, _⟩ := hs.old j v (by rw [HM.out]; exact (List.getElem?_eq_some_iff.1 hv).1) hv
        obtain ⟨l', a', _⟩ := hs.was j u hu
        exact ⟨l, l', a, a', fun e => by cases e⟩
      · obtain ⟨n, h1, _⟩ := hs.bk.marked j v hv
        exact ⟨n, h1⟩
    have hk := kept_calls hkp
    have HK2 := Lib.hid hk
    have HMD := Lib.hid hs.mod
    rw [e2] at c2
    clear hU hs hkp hk
    go_wp2_with (first
      | (go_at_call 24
         refine HK2.out.out.mono ?_
         rintro e w4 ⟨rfl, hb4⟩
         have HB4 := Lib.hid hb4
         clear hb4)
      | fail)
    go_ret
    exact ⟨rfl, HMD.out.onB HB4.out⟩
/-- settled, of a late Book from outside. -/
theorem Bok.settled {w : World} {b N : Nat} {own : Nat → Prop} (h : Bok w b own true N) (hN : N ≤ 5864062014805) : Calls Tryd.prog 97 #[.pointer (some ⟨b, 0, none⟩)] w fun e w' => e = .returned (.bool true) ∧ Mod own w w' := by
  obtain ⟨ow, N0, N2, ⟨v0, v2, v3, K0, K2, K3, Ws, hb, hN0, hN2⟩, ho, hn, hl, h0⟩ := h
  have hK : K0 = [] := List.eq_nil_of_length_eq_zero (hN0.trans (h0 rfl))
  subst hK
  refine (settled3 hb (by omega)).mono fun e w' ⟨h1, h2⟩ => ⟨h1, h2.mono fun k _ e => (ho k).2 e⟩
end Go.Proofs.YtckbckdaffdjmaaDoor

/- made: both bitmaps, or neither. -/
namespace Go.Proofs.YtckbckdaffdjmaaDoor
open Go.RowKit
set_option maxRecDepth 100000
set_option linter.unusedVariables false
set_option linter.unusedSimpArgs false

/-- What made leaves at P. -/
def MadeP (w w' : World) (P b : Nat) (own' : Nat → Prop) : Prop :=
  w.heap.size ≤ P ∧ ¬ own' P ∧ (Rw w' P 35 [.pointer none, .pointer none, .pointer (some ⟨b, 0, none⟩)] ∨
    ∃ p bw ba r bb n W, Pr w' P p bw ba r bb b n W ∧ ∀ k, Pr.At P p bw ba r bb k → w.heap.size ≤ k ∧ ¬ own' k)
theorem MadeP.below {w w1 w' : World} {P b : Nat} {own' : Nat → Prop} (h : MadeP w w1 P b own') (hb : Below w1.heap.size w1 w') : MadeP w w' P b own' := by
  obtain ⟨h1, h2, h | ⟨p, bw, ba, r, bb, n, W, h3, h4⟩⟩ := h
  · exact ⟨h1, h2, .inl (h.below hb)⟩
  · exact ⟨h1, h2, .inr ⟨p, bw, ba, r, bb, n, W, h3.below hb, h4⟩⟩
theorem below_drewN (w : World) : ∀ k, Below w.heap.size w (w.drewN k)
  | 0 => Below.refl _ _
  | k + 1 => (below_drewN w k).drew
theorem made_post {w w1 w2 w3 w' : World} {P b : Nat} {own' : Nat → Prop} {q q' : Option Addr} {er : Nat} {n : Int} {W : List UInt64}
    (hq : GotB w1 w2 q er n W) (hq' : GotR w2 w3 q' er (Bm.bools n.toNat W)) (hs : w.heap.size ≤ P) (hP : P < w1.heap.size) (hs2 : w1.heap.size ≤ w2.heap.size)
    {F G : Nat → Prop} (hm2 : Mod F w2 w') (hm3 : Mod G w3 w') (hF : ∀ k, k < w2.heap.size → w1.heap.size ≤ k → ¬ F k) (hG : ∀ k, k < w3.heap.size → w2.heap.size ≤ k → ¬ G k)
    (hb : Rw w' P 35 [.pointer q, .pointer q', .pointer (some ⟨b, 0, none⟩)]) (hoP : ¬ own' P) (ho : ∀ k, w1.heap.size ≤ k → k < w3.heap.size → ¬ own' k) :
    MadeP w w' P b own' ∧ q.isNone = q'.isNone := by
  rcases hq with ⟨he, rfl⟩ | ⟨he, p, bw, ba, rfl, hm, h1, h2, h3⟩
  · rcases hq' with ⟨he', rfl⟩ | ⟨he', _⟩
    · exact ⟨⟨hs, hoP, .inl hb⟩, rfl⟩
    · exact absurd he' he
  · rcases hq' with ⟨he', rfl⟩ | ⟨he', r, bb, rfl, hr, h4, h5⟩
    · exact absurd he he'
    · have l1 := heap_lt hm.hs
      have l2 := heap_lt hm.hw
      have l3 := heap_lt hm.ha
      have l4 := heap_lt hr.hs
      have l5 := heap_lt hr.hb
      refine ⟨⟨hs, hoP, .inr ⟨p, bw, ba, r, bb, n.toNat, W, ⟨hb, hm.mod hm2 (hF _ l1 h1) (hF _ l2 h2) (hF _ l3 h3), hr.mod hm3 (hG _ l4 h4) (hG _ l5 h5), by omega, by omega, by omega⟩, ?_⟩⟩, rfl⟩
      rintro k (rfl | rfl | rfl | rfl | rfl | rfl)
      · exact ⟨hs, hoP⟩
      all_goals exact ⟨by omega, ho _ (by omega) (by omega)⟩
/-- The argument and the pair, just boxed. -/
theorem boxed (w : World) (fr : Bool) (n : Int) (xv : Value) (b : Nat) : ∃ w0 A P, w0 = (w.alloc (.cells #[.bool fr, .int .i64 n, xv] 24)).alloc (.cells #[.pointer none, .pointer none, .pointer (some ⟨b, 0, none⟩)] 35) ∧ A = w.heap.size ∧ P = w.heap.size + 1 ∧
    Rw w0 A 24 [.bool fr, .int .i64 n, xv] ∧ Rw w0 P 35 [.pointer none, .pointer none, .pointer (some ⟨b, 0, none⟩)] ∧ Below w.heap.size w w0 ∧ P < w0.heap.size := by
  refine ⟨_, _, _, rfl, rfl, rfl, (heap_old _ _ _ (by simp)).trans (heap_new _ _ _ rfl), heap_new _ _ _ (by simp), (below_alloc1 _ _).alloc (by simp) _, by simp⟩
set_option maxHeartbeats 4000000 in
theorem made_new {w : World} {b N : Nat} {own : Nat → Prop} {late : Bool} (hb : Bok w b own late N) {n : Int} (hn : (Lit.int .i64 n).wf = true) {xv : Value} {V : List UInt64} (hx : RU w xv V) :
    Calls Tryd.prog 17 #[.agg #[.bool false, .int .i64 n, xv], .pointer (some ⟨b, 0, none⟩)] w fun e w' => ∃ P own', e = .returned (.tuple #[.pointer (some ⟨P, 0, none⟩), .bool true]) ∧ MadeP w w' P b own' ∧ Bok w' b own' late (N + 2) ∧ (∀ k, k < w.heap.size → (own' k ↔ own k)) ∧ Mod own w w' := by
  have HB := Lib.hid hb
  obtain ⟨q, c, hxe⟩ := hx.form
  obtain ⟨L, hL⟩ : ∃ L, L = V.length := ⟨_, rfl⟩
  rw [← hL] at hxe
  clear hx hb hL
  subst hxe
  obtain ⟨w0, A, P, hw0, hA, hP, hra, hrp, hb0, hPl⟩ := boxed w false n (.slice q L c) b
  have HBX := Lib.hid (And.intro hb0 (And.intro hPl (And.intro hA hP)))
  go_enter Tryd.func17, Tryd.ntmps17
  go_upto_region 4 with fail
  rw [← hw0, ← hP, ← hA]
  have hne : A ≠ P := by omega
  have hne2 : P ≠ A := by omega
  have ca0 := hra.cell (i := 0) rfl
  have ca1 := hra.cell (i := 1) rfl
  have HRA := Lib.hid hra
  have HRP := Lib.hid hrp
  clear hw0 hA hP hb0 hPl hra hrp
  go_upto_region 13 with (first
    | (go_at_call 56
       refine (new_any hn).mono ?_
       rintro e w1 ⟨q1, rfl, hq1, hb1⟩
       have hrp1 := HRP.out.below hb1
       have cp1 := hrp1.cell (i := 0) rfl
       have fp1 := hrp1.frozen 0
       have HRP1 := Lib.hid hrp1
       have HRA1 := Lib.hid (HRA.out.below hb1)
       have HQ1 := Lib.hid hq1
       have HB1 := Lib.hid hb1
       clear hrp1 hq1 hb1)
    | fail)
  obtain ⟨w2, hw2⟩ : ∃ w2, w2 = w1.setCell ⟨P, 0, none⟩ (.pointer q1) := ⟨_, rfl⟩
  have hra2 := HRA1.out.other hne2 0 (.pointer q1)
  have hrp2 := HRP1.out.set 0 (.pointer q1)
  have hm12 : Mod (fun k => k = P) w1 w2 := by rw [hw2]; exact Mod.setCell _ _ _ _ rfl
  rw [← hw2] at hra2 hrp2 ⊢
  have HM12 := Lib.hid hm12
  have HRA2 := Lib.hid hra2
  have HRP2 := Lib.hid hrp2
  have ca2 := hra2.cell (i := 1) rfl
  clear ca0 ca1 cp1 fp1 hra2 hrp2 hm12 hw2
  go_upto_region 14 with (first
    | (go_at_call 57
       refine (rnew_any hn).mono ?_
       rintro e w3 ⟨q3, rfl, hq3, hb3⟩
       have hrp3 := HRP2.out.below hb3
       have cp3 := hrp3.cell (i := 1) rfl
       have fp3 := hrp3.frozen 1
       have HRP3 := Lib.hid hrp3
       have HQ3 := Lib.hid hq3
       have HB3 := Lib.hid hb3
       clear hrp3 hq3 hb3)
    | fail)
  obtain ⟨w4, hw4⟩ : ∃ w4, w4 = w3.setCell ⟨P, 1, none⟩ (.pointer q3) := ⟨_, rfl⟩
  have hrp4 := HRP3.out.set 1 (.pointer q3)
  have hm34 : Mod (fun k => k = P) w3 w4 := by rw [hw4]; exact Mod.setCell _ _ _ _ rfl
  rw [← hw4] at hrp4 ⊢
  have HM34 := Lib.hid hm34
  have cp40 := hrp4.cell (i := 0) rfl
  have cp41 := hrp4.cell (i := 1) rfl
  have HRP4 := Lib.hid hrp4
  clear cp3 fp3 hrp4 hm34 hw4 ca2
  obtain ⟨E, hE⟩ : ∃ E, E = Bm.errN n := ⟨_, rfl⟩
  rw [← hE] at HQ1 HQ3 ⊢
  clear hE
  obtain ⟨hb0, hPl, hA, hP⟩ := HBX.out
  have hs1 := HB1.out.size
  have hs2 := HM12.out.size
  have hs3 := HB3.out.size
  have hs4 := HM34.out.size
  have hbz : Bm.bools n.toNat (List.replicate (Bm.room n.toNat) 0) = List.replicate n.toNat false := Bm.bools_zero
  have hq3 := HQ3.out
  rw [← hbz] at hq3
  have hm04 : Mod (fun _ => False) w w4 := ((((Mod.of_below hb0).onB HB1.out).on HM12.out (fun k e => .inr (by omega))).onB HB3.out).on HM34.out (fun k e => .inr (by omega))
  have hm24 : Mod (fun k => k = P) w2 w4 := (Mod.of_below HB3.out).trans HM34.out
  have hbok := HB.out.mod hm04 (fun _ _ e => e.elim)
  have hlow := HB.out.lt
  have hpost' : MadeP w w4 P b own ∧ q1.isNone = q3.isNone := by
    have hq1 : GotB w0 w2 q1 E n (List.replicate (Bm.room n.toNat) 0) := by
      rcases HQ1.out with h | ⟨h1, p, bw, ba, h2, h3, h4, h5, h6⟩
      · exact .inl h
      · exact .inr ⟨h1, p, bw, ba, h2, h3.mod HM12.out (by omega) (by omega) (by omega), h4, h5, h6⟩
    exact made_post hq1 hq3 (by omega) hPl (by omega) hm24 HM34.out (fun k _ h e => by omega) (fun k _ h e => by omega) HRP4.out (fun e => by have := hlow _ e; omega) (fun k hk _ e => by have := hlow _ e; omega)
  obtain ⟨hpost, hni⟩ := hpost'
  have HF := Lib.hid (And.intro hpost (And.intro hbok hm04))
  have hni2 : (q1 = none ∧ q3 = none) ∨ (∃ a a', q1 = some a ∧ q3 = some a') := by
    cases q1 <;> cases q3 <;> simp at hni ⊢
  clear hq3 hbz hs1 hs2 hs3 hs4 hPl hA hP hlow hm04 hm24 hbok hb0 hpost hni hne hne2
  rcases hni2 with ⟨rfl, rfl⟩ | ⟨a, a', rfl, rfl⟩
  all_goals
    go_quiet (fail)
  all_goals
    go_wp2_with fail
    refine bodyPost_ret (results_tmp2 rfl _ _ _) rfl ?_
    have hd := below_drewN w4 nq
    exact ⟨P, own, rfl, HF.out.1.below hd, (HF.out.2.1.below hd).more (by omega), fun k _ => Iff.rfl, (HF.out.2.2.onB hd).mono fun _ _ e => e.elim⟩
end Go.Proofs.YtckbckdaffdjmaaDoor

/- made, by From. -/
namespace Go.Proofs.YtckbckdaffdjmaaDoor
open Go.RowKit
set_option maxRecDepth 100000
set_option linter.unusedVariables false
set_option linter.unusedSimpArgs false

set_option maxHeartbeats 8000000 in
theorem made_from {w : World} {b N : Nat} {own : Nat → Prop} {late : Bool} (hK : KeepC late) (hN : N + 2 ≤ 5864062014805) (hb : Bok w b own late N) {n : Int} (hn : (Lit.int .i64 n).wf = true) {xv : Value} {V : List UInt64} (hx : RU w xv V) (hV : V.length + 80 ≤ 17592186044416) :
    Calls Tryd.prog 17 #[.agg #[.bool true, .int .i64 n, xv], .pointer (some ⟨b, 0, none⟩)] w fun e w' => ∃ P own', e = .returned (.tuple #[.pointer (some ⟨P, 0, none⟩), .bool true]) ∧ MadeP w w' P b own' ∧ Bok w' b own' late (N + 2) ∧ (∀ k, k < w.heap.size → (own' k ↔ own k)) ∧ Mod own w w' := by
  have HB := Lib.hid hb
  have HX := Lib.hid hx
  have HV := Lib.hid hV
  have HN := Lib.hid hN
  have HK := Lib.hid hK
  obtain ⟨q, c, hxe⟩ := hx.form
  obtain ⟨L, hL⟩ : ∃ L, L = V.length := ⟨_, rfl⟩
  rw [← hL] at hxe
  clear hx hb hL hV hN hK
  subst hxe
  obtain ⟨w0, A, P, hw0, hA, hP, hra, hrp, hb0, hPl⟩ := boxed w true n (.slice q L c) b
  have HBX := Lib.hid (And.intro hb0 (And.intro hPl (And.intro hA hP)))
  have HX0 := Lib.hid (HX.out.below hb0)
  go_enter Tryd.func17, Tryd.ntmps17
  go_upto_region 4 with fail
  rw [← hw0, ← hP, ← hA]
  have hne : A ≠ P := by omega
  have hne2 : P ≠ A := by omega
  have ca0 := hra.cell (i := 0) rfl
  have ca1 := hra.cell (i := 1) rfl
  have ca2 := hra.cell (i := 2) rfl
  have HRA := Lib.hid hra
  have HRP := Lib.hid hrp
  clear hw0 hA hP hb0 hPl hra hrp
  have hcop := copied_calls HX0.out (by have := HV.out; omega)
  have HCC := Lib.hid hcop
  clear hcop
  go_upto_region 7 with (first
    | (go_at_call 19
       refine HCC.out.mono ?_
       rintro e w1 ⟨xi, rfl, hci, hb1⟩
       have hra1 := HRA.out.below hb1
       have cb0 := hra1.cell (i := 0) rfl
       have cb1 := hra1.cell (i := 1) rfl
       have cb2 := hra1.cell (i := 2) rfl
       have HRA1 := Lib.hid hra1
       have HRP1 := Lib.hid (HRP.out.below hb1)
       have HCI := Lib.hid hci
       have HB1 := Lib.hid hb1
       have hfr := from_any (w := w1) hn (hci.ru (by have := HV.out; omega))
       have HFR := Lib.hid hfr
       clear hra1 hci hb1 hfr)
    | (go_at_call 54
       refine HFR.out.mono ?_
       rintro e w2 ⟨q2, rfl, hq2, hb2⟩
       have hrp2 := HRP1.out.below hb2
       have cp2 := hrp2.cell (i := 0) rfl
       have fp2 := hrp2.frozen 0
       have HRP2 := Lib.hid hrp2
       have HRA2 := Lib.hid (HRA1.out.below hb2)
       have HQ2 := Lib.hid hq2
       have HB2 := Lib.hid hb2
       clear hrp2 hq2 hb2)
    | fail)
  obtain ⟨w3, hw3⟩ : ∃ w3, w3 = w2.setCell ⟨P, 0, none⟩ (.pointer q2) := ⟨_, rfl⟩
  have hra3 := HRA2.out.other hne2 0 (.pointer q2)
  have hrp3 := HRP2.out.set 0 (.pointer q2)
  have hm23 : Mod (fun k => k = P) w2 w3 := by rw [hw3]; exact Mod.setCell _ _ _ _ rfl
  rw [← hw3] at hra3 hrp3 ⊢
  have HM23 := Lib.hid hm23
  have HRA3 := Lib.hid hra3
  have HRP3 := Lib.hid hrp3
  have cc1 := hra3.cell (i := 1) rfl
  have cc2 := hra3.cell (i := 2) rfl
  have hmx3 : Mod (fun _ => False) w w3 := (((Mod.of_below HBX.out.1).onB HB1.out).onB HB2.out).on HM23.out fun k e => .inr (by have := HBX.out.2.2.2; omega)
  have hx3 : RU w3 (.slice q L c) V := HX.out.mod hmx3 (fun _ _ _ e => e)
  have HMX3 := Lib.hid hmx3
  have hfr := rfrom_any (w := w3) hn hx3
  have HFR3 := Lib.hid hfr
  have HX3 := Lib.hid hx3
  clear ca0 ca1 ca2 cb0 cb1 cb2 cp2 fp2 hra3 hrp3 hm23 hw3 hmx3 hx3 hfr
  go_upto_region 8 with (first
    | (go_at_call 55
       refine HFR3.out.mono ?_
       rintro e w4 ⟨q4, rfl, hq4, hb4⟩
       have hrp4 := HRP3.out.below hb4
       have cp4 := hrp4.cell (i := 1) rfl
       have fp4 := hrp4.frozen 1
       have HRP4 := Lib.hid hrp4
       have HRA4 := Lib.hid (HRA3.out.below hb4)
       have HQ4 := Lib.hid hq4
       have HB4 := Lib.hid hb4
       clear hrp4 hq4 hb4)
    | fail)
  obtain ⟨w5, hw5⟩ : ∃ w5, w5 = w4.setCell ⟨P, 1, none⟩ (.pointer q4) := ⟨_, rfl⟩
  have hra5 := HRA4.out.other hne2 1 (.pointer q4)
  have hrp5 := HRP4.out.set 1 (.pointer q4)
  have hm45 : Mod (fun k => k = P) w4 w5 := by rw [hw5]; exact Mod.setCell _ _ _ _ rfl
  rw [← hw5] at hra5 hrp5 ⊢
  have HM45 := Lib.hid hm45
  have HRA5 := Lib.hid hra5
  have HRP5 := Lib.hid hrp5
  have cd2 := hra5.cell (i := 2) rfl
  clear cp4 fp4 hra5 hrp5 hm45 hw5 cc1 cc2
  have hmx5 : Mod (fun _ => False) w w5 := (HMX3.out.onB HB4.out).on HM45.out fun k e => .inr (by have := HBX.out.2.2.2; omega)
  have hx5 : RU w5 (.slice q L c) V := HX.out.mod hmx5 (fun _ _ _ e => e)
  have hxiP : ∀ g, xi.ownBlock = some g → w0.heap.size ≤ g ∧ g < w1.heap.size := fun g e => (HCI.out.ou (by have := HV.out; omega)).lt g e
  have hm15 : Mod (fun k => k = P) w1 w5 := ((Mod.of_below HB2.out).trans HM23.out).trans ((Mod.of_below HB4.out).trans (HM45.out))
  have hci5 := HCI.out.mod hm15 (fun g e e' => by have h1 := (hxiP g e).1; have h2 := HBX.out.2.1; omega)
  have hint := intact_calls hci5 hx5 (by have := HV.out; omega)
  have HINT := Lib.hid hint
  have HMX5 := Lib.hid hmx5
  have HCI5 := Lib.hid hci5
  have HXIP := Lib.hid hxiP
  have HM15 := Lib.hid hm15
  clear hmx5 hx5 hxiP hm15 hci5 hint
  have HMX6 : Hid (∀ w6, Below w5.heap.size w5 w6 → Calls Tryd.prog 23 #[.pointer (some ⟨b, 0, none⟩), xi] w6 fun e w' => e = .returned (.tuple #[]) ∧ ∃ own', Bok w' b own' late (N + 2) ∧ (∀ k, k < w6.heap.size → (own' k ↔ own k ∨ xi.ownBlock = some k)) ∧ Mod (fun k => own k ∨ xi.ownBlock = some k) w6 w') := Lib.hid fun w6 hb6 =>
    HK.out.run (HB.out.mod (HMX5.out.onB hb6) (fun _ _ e => e.elim)) (((HCI5.out.below hb6).ou (by have := HV.out; omega)).more (Nat.zero_le _)) HV.out (fun g e e' => by have h1 := (HXIP.out g e).1; have h2 := HB.out.lt g e'; have h3 := HBX.out.1.size; omega) HN.out
  go_upto_region 14 with (first
    | (go_at_call 25
       refine HINT.out.out.mono ?_
       rintro e w6 ⟨rfl, hb6⟩
       have HB6 := Lib.hid hb6
       clear hb6)
    | (go_at_call 23
       refine (HMX6.out w6 HB6.out).mono ?_
       rintro e w7 ⟨rfl, own', hbok7, hlow7, hm7⟩
       have HBOK7 := Lib.hid hbok7
       have HLOW7 := Lib.hid hlow7
       have HM7 := Lib.hid hm7
       clear hbok7 hlow7 hm7)
    | fail)
  obtain ⟨E, hE⟩ : ∃ E, E = Bm.errF n V := ⟨_, rfl⟩
  rw [← hE] at HQ2 HQ4 ⊢
  clear hE
  obtain ⟨hb0, hPl, hA, hP⟩ := HBX.out
  have hs0 := hb0.size
  have hs1 := HB1.out.size
  have hs2 := HB2.out.size
  have hs3 := HM23.out.size
  have hs4 := HB4.out.size
  have hs5 := HM45.out.size
  have hs6 := HB6.out.size
  have hs7 := HM7.out.size
  have hxi := HXIP.out
  have hown := HB.out.lt
  have hm07 : Mod own w w7 := ((HMX5.out.onB HB6.out).mono (fun _ _ e => e.elim)).on HM7.out (fun k e => e.elim .inl fun e => .inr (by have := hxi k e; omega))
  have hnP : ¬ (own P ∨ xi.ownBlock = some P) := fun e => e.elim (fun e => by have := hown _ e; omega) (fun e => by have := hxi _ e; omega)
  have hrp7 := (HRP5.out.below HB6.out).mod HM7.out hnP
  have hm57 : Mod (fun k => own k ∨ xi.ownBlock = some k) w5 w7 := (Mod.of_below HB6.out).trans HM7.out
  have hm47 : Mod (fun k => k = P ∨ own k ∨ xi.ownBlock = some k) w4 w7 := (HM45.out.mono fun _ _ e => .inl e).trans (hm57.mono fun _ _ e => .inr e)
  have hm37 : Mod (fun k => k = P ∨ own k ∨ xi.ownBlock = some k) w3 w7 := (Mod.of_below HB4.out).trans hm47
  have hFF : ∀ k, w1.heap.size ≤ k → ¬ (k = P ∨ own k ∨ xi.ownBlock = some k) := fun k hk e => by
    rcases e with e | e | e
    · omega
    · have := hown _ e; omega
    · have := hxi _ e; omega
  have hpost' : MadeP w w7 P b own' ∧ q2.isNone = q4.isNone := by
    have hq1 : GotB w1 w3 q2 E n V := by
      rcases HQ2.out with h | ⟨h1, p, bw, ba, h2, h3, h4, h5, h6⟩
      · exact .inl h
      · exact .inr ⟨h1, p, bw, ba, h2, h3.mod HM23.out (by omega) (by omega) (by omega), h4, h5, h6⟩
    refine made_post hq1 HQ4.out (by omega) (by omega) (by omega) hm37 hm47 (fun k _ h => hFF k h) (fun k _ h => hFF k (by omega)) hrp7 (fun e => hnP ((HLOW7.out P (by omega)).1 e)) (fun k h1 h2 e => hFF k h1 (.inr ((HLOW7.out k (by omega)).1 e)))
  obtain ⟨hpost, hni⟩ := hpost'
  have hlow : ∀ k, k < w.heap.size → (own' k ↔ own k) := fun k hk => (HLOW7.out k (by omega)).trans ⟨fun e => e.elim id fun e => by have := hxi k e; omega, .inl⟩
  have hp0 := hrp7.cell (i := 0) rfl
  have hp1 := hrp7.cell (i := 1) rfl
  have HF := Lib.hid (And.intro hpost (And.intro HBOK7.out (And.intro hlow hm07)))
  have hni2 : (q2 = none ∧ q4 = none) ∨ (∃ a a', q2 = some a ∧ q4 = some a') := by
    cases q2 <;> cases q4 <;> simp at hni ⊢
  clear hs0 hs1 hs2 hs3 hs4 hs5 hs6 hs7 hPl hA hP hxi hown hm07 hnP hrp7 hm57 hm47 hm37 hFF hb0 hpost hni hlow hne hne2 cd2
  rcases hni2 with ⟨rfl, rfl⟩ | ⟨a, a', rfl, rfl⟩
  all_goals
    go_quiet (fail)
  all_goals
    go_wp2_with fail
    refine bodyPost_ret (results_tmp2 rfl _ _ _) rfl ?_
    have hd := below_drewN w7 nq
    exact ⟨P, own', rfl, HF.out.1.below hd, HF.out.2.1.below hd, HF.out.2.2.1, HF.out.2.2.2.onB hd⟩
end Go.Proofs.YtckbckdaffdjmaaDoor

/- ask: Len, Count, Words, Summary. -/
namespace Go.Proofs.YtckbckdaffdjmaaDoor
open Go.RowKit
set_option maxRecDepth 100000
set_option linter.unusedVariables false
set_option linter.unusedSimpArgs false

/-- The question, just boxed. -/
theorem boxedOp (w : World) (cs : List Value) : ∃ w0 A, w0 = w.alloc (.cells cs.toArray 39) ∧ A = w.heap.size ∧ Rw w0 A 39 cs ∧ Below w.heap.size w w0 :=
  ⟨_, _, rfl, rfl, heap_new _ _ _ rfl, below_alloc1 _ _⟩
/-- What a call of the pair is told by. -/
structure PrB (w : World) (P p bw ba r bb b n : Nat) (W : List UInt64) (own : Nat → Prop) (late : Bool) (N : Nat) : Prop where
  pr : Pr w P p bw ba r bb b n W
  bk : Bok w b own late N
  no : ∀ k, Pr.At P p bw ba r bb k → ¬ own k
theorem PrB.below {w w' : World} {P p bw ba r bb b n N : Nat} {W : List UInt64} {own : Nat → Prop} {late : Bool} (h : PrB w P p bw ba r bb b n W own late N) (hb : Below w.heap.size w w') : PrB w' P p bw ba r bb b n W own late N := ⟨h.pr.below hb, h.bk.below hb, h.no⟩
/-- What an answer of the pair leaves. -/
def AskP (w : World) (b : Nat) (own : Nat → Prop) (late : Bool) (N : Nat) (e : Ending) (w' : World) : Prop :=
  e = .returned (.bool true) ∧ ∃ own', Bok w' b own' late (N + 2) ∧ (∀ k, k < w.heap.size → (own' k ↔ own k)) ∧ Mod own w w'
theorem AskP.pure {w w' : World} {b N : Nat} {own : Nat → Prop} {late : Bool} (hb : Bok w b own late N) (h : Below w.heap.size w w') : AskP w b own late N (.returned (.bool true)) w' :=
  ⟨rfl, own, (hb.below h).more (by omega), fun _ _ => Iff.rfl, Mod.of_below h⟩
set_option maxHeartbeats 8000000 in
theorem ask_len {w : World} {P p bw ba r bb b n N : Nat} {W : List UInt64} {own : Nat → Prop} {late : Bool} (h : PrB w P p bw ba r bb b n W own late N) (s2 wv bf ac ag : Value) (A B : Int) :
    Calls Tryd.prog 18 #[.pointer (some ⟨P, 0, none⟩), .agg #[.int .i64 11, s2, .int .i64 A, .int .i64 B, wv, bf, ac, ag]] w (AskP w b own late N) := by
  obtain ⟨w0, D, hw0, hD, hrd, hb0⟩ := boxedOp w [.int .i64 11, s2, .int .i64 A, .int .i64 B, wv, bf, ac, ag]
  have HH := Lib.hid h
  have h0 := h.below hb0
  have HB0 := Lib.hid hb0
  have cd0 := hrd.cell (i := 0) rfl
  have cp0 := h0.pr.hP.cell (i := 0) rfl
  have cp1 := h0.pr.hP.cell (i := 1) rfl
  have lp := heap_lt h0.pr.hP
  have lr := heap_lt h0.pr.hr.hs
  have HM := Lib.hid h0.pr.hm
  have cr0 := h0.pr.hr.hs.cell (i := 0) rfl
  rw [Bm.bools_length] at cr0
  go_enter Tryd.func18, Tryd.ntmps18
  go_upto_region 1 with fail
  rw [← hw0, ← hD]
  clear h hrd hw0 hD h0
  go_upto_region 17 with fail
  refine wp_region_R (Below w0.heap.size w0) (by kernel_rfl) (by kernel_rfl) (by first | exact Below.refl _ _ | exact below_alloc1 _ _ | exact below_alloc2 _ _ _ | exact below_alloc3 _ _ _ _ | (repeat' (first | assumption | exact Below.refl _ _ | exact below_alloc1 _ _ | exact below_alloc2 _ _ _ | exact below_alloc3 _ _ _ _ | (refine Below.drew ?_) | (refine below_wb ?_ ?_) | (refine Below.alloc ?_ ?_ _) | omega | (simp; done) | (simp; omega)))) ?_
  (repeat (first | (apply wpR_pass rfl; (try simp only [Act.put, List.setIfInBounds_toArray, List.set_cons_succ, List.set_cons_zero])) | (apply wpR_val rfl; (focus (intro w1 hR; obtain ⟨hc, hf⟩ := bcellB hR; (try go_simp); (try exact Eq.refl _); done)); (try simp only [Act.put, List.setIfInBounds_toArray, List.set_cons_succ, List.set_cons_zero])) | (apply wpR_call rfl; (focus (intro w1 hR; obtain ⟨hc, hf⟩ := bcellB hR; (try go_simp); (try exact And.intro rfl rfl); done)); (focus (intro w1 hR; first | exact (len_calls (HM.out.below hR)).at_ (by first | omega | (simp; done) | (simp; omega)) hR)); (try simp only [Act.put, List.setIfInBounds_toArray, List.set_cons_succ, List.set_cons_zero])) | (apply wpR_val_want rfl; (focus (intro w1 hR; obtain ⟨hc, hf⟩ := bcellB hR; (try go_simp); (try exact Eq.refl _); done)); (try simp only [Act.put, List.setIfInBounds_toArray, List.set_cons_succ, List.set_cons_zero])) | (apply wpR_call_want rfl; (focus (intro w1 hR; obtain ⟨hc, hf⟩ := bcellB hR; (try go_simp); (try exact And.intro rfl rfl); done)); (focus (intro w1 hR; first | exact (len_calls (HM.out.below hR)).at_ (by first | omega | (simp; done) | (simp; omega)) hR)); (try simp only [Act.put, List.setIfInBounds_toArray, List.set_cons_succ, List.set_cons_zero]))))
  refine wpR_nil (fun w1 hb1 => ?_)
  go_wp2_with fail
  go_ret
  exact AskP.pure HH.out.bk (HB0.out.trans (hb1.mono HB0.out.size))
theorem cnt_bools {n : Nat} {W : List UInt64} (h : Bm.Ok n W) : Bm.cnt (fun i => (Bm.bools n W).getD i false) 0 (Bm.bools n W).length = Bm.ones' W := by
  rw [Bm.ones_ok h, Bm.bools_length]
  exact Bm.cnt_congr n fun t ht => by rw [Nat.zero_add, Bm.bools_getD, decide_eq_true ht, Bool.true_and]
set_option maxHeartbeats 8000000 in
theorem ask_count {w : World} {P p bw ba r bb b n N : Nat} {W : List UInt64} {own : Nat → Prop} {late : Bool} (h : PrB w P p bw ba r bb b n W own late N) (s2 wv bf ac ag : Value) (A B : Int) :
    Calls Tryd.prog 18 #[.pointer (some ⟨P, 0, none⟩), .agg #[.int .i64 7, s2, .int .i64 A, .int .i64 B, wv, bf, ac, ag]] w (AskP w b own late N) := by
  obtain ⟨w0, D, hw0, hD, hrd, hb0⟩ := boxedOp w [.int .i64 7, s2, .int .i64 A, .int .i64 B, wv, bf, ac, ag]
  have HH := Lib.hid h
  have h0 := h.below hb0
  have HB0 := Lib.hid hb0
  have cd0 := hrd.cell (i := 0) rfl
  have cp0 := h0.pr.hP.cell (i := 0) rfl
  have cp1 := h0.pr.hP.cell (i := 1) rfl
  have lp := heap_lt h0.pr.hP
  have lr := heap_lt h0.pr.hr.hs
  have HM := Lib.hid h0.pr.hm
  have HR : Hid (∀ w1, Below w0.heap.size w0 w1 → Pur Tryd.prog 59 #[.pointer (some ⟨r, 0, none⟩)] w1 (.int .i64 (Bm.ones' W : Nat))) := Lib.hid fun w1 hR => by
    rw [← cnt_bools h0.pr.hm.ok]; exact rcount_calls (h0.pr.hr.below hR)
  go_enter Tryd.func18, Tryd.ntmps18
  go_upto_region 1 with fail
  rw [← hw0, ← hD]
  clear h hrd hw0 hD h0
  go_upto_region 7 with fail
  refine wp_region_R (Below w0.heap.size w0) (by kernel_rfl) (by kernel_rfl) (by first | exact Below.refl _ _ | exact below_alloc1 _ _ | exact below_alloc2 _ _ _ | exact below_alloc3 _ _ _ _ | (repeat' (first | assumption | exact Below.refl _ _ | exact below_alloc1 _ _ | exact below_alloc2 _ _ _ | exact below_alloc3 _ _ _ _ | (refine Below.drew ?_) | (refine below_wb ?_ ?_) | (refine Below.alloc ?_ ?_ _) | omega | (simp; done) | (simp; omega)))) ?_
  (repeat (first | (apply wpR_pass rfl; (try simp only [Act.put, List.setIfInBounds_toArray, List.set_cons_succ, List.set_cons_zero])) | (apply wpR_val rfl; (focus (intro w1 hR; obtain ⟨hc, hf⟩ := bcellB hR; (try go_simp); (try exact Eq.refl _); done)); (try simp only [Act.put, List.setIfInBounds_toArray, List.set_cons_succ, List.set_cons_zero])) | (apply wpR_call rfl; (focus (intro w1 hR; obtain ⟨hc, hf⟩ := bcellB hR; (try go_simp); (try exact And.intro rfl rfl); done)); (focus (intro w1 hR; first | exact (count_calls (HM.out.below hR)).at_ (by first | omega | (simp; done) | (simp; omega)) hR | exact (HR.out w1 hR).at_ (by first | omega | (simp; done) | (simp; omega)) hR)); (try simp only [Act.put, List.setIfInBounds_toArray, List.set_cons_succ, List.set_cons_zero])) | (apply wpR_val_want rfl; (focus (intro w1 hR; obtain ⟨hc, hf⟩ := bcellB hR; (try go_simp); (try exact Eq.refl _); done)); (try simp only [Act.put, List.setIfInBounds_toArray, List.set_cons_succ, List.set_cons_zero])) | (apply wpR_call_want rfl; (focus (intro w1 hR; obtain ⟨hc, hf⟩ := bcellB hR; (try go_simp); (try exact And.intro rfl rfl); done)); (focus (intro w1 hR; first | exact (count_calls (HM.out.below hR)).at_ (by first | omega | (simp; done) | (simp; omega)) hR | exact (HR.out w1 hR).at_ (by first | omega | (simp; done) | (simp; omega)) hR)); (try simp only [Act.put, List.setIfInBounds_toArray, List.set_cons_succ, List.set_cons_zero]))))
  refine wpR_nil (fun w1 hb1 => ?_)
  go_wp2_with fail
  go_ret
  exact AskP.pure HH.out.bk (HB0.out.trans (hb1.mono HB0.out.size))
theorem NewU.ou {w w' : World} {v : Value} {W : List UInt64} (h : NewU w w' v W) (hl : W.length ≤ 17592186044416) : OU w.heap.size w' v W := by
  obtain ⟨g, rfl, h4, h3, _⟩ := h
  refine ⟨⟨by simp, .inr ⟨g, W.length, (W.map uv).toArray, rfl, h3, h4, Nat.le_refl _, by simp only [maxLen]; omega, by simp, ?_⟩⟩, hl⟩
  simp
  exact List.take_of_length_le (by simp)
theorem NewU.bel {w w' : World} {v : Value} {W : List UInt64} (h : NewU w w' v W) : Below w.heap.size w w' := h.elim fun _ h => h.2.2.2
set_option maxHeartbeats 8000000 in
theorem ask_words {w : World} {P p bw ba r bb b n N : Nat} {W : List UInt64} {own : Nat → Prop} {late : Bool} (hK : KeepC late) (hN : N + 2 ≤ 5864062014805) (h : PrB w P p bw ba r bb b n W own late N) (s2 wv bf ac ag : Value) (A B : Int) :
    Calls Tryd.prog 18 #[.pointer (some ⟨P, 0, none⟩), .agg #[.int .i64 12, s2, .int .i64 A, .int .i64 B, wv, bf, ac, ag]] w (AskP w b own late N) := by
  obtain ⟨w0, D, hw0, hD, hrd, hb0⟩ := boxedOp w [.int .i64 12, s2, .int .i64 A, .int .i64 B, wv, bf, ac, ag]
  have HH := Lib.hid h
  have h0 := h.below hb0
  have HB0 := Lib.hid hb0
  have H0 := Lib.hid h0
  have HK := Lib.hid hK
  have HN := Lib.hid hN
  have cd0 := hrd.cell (i := 0) rfl
  have cp0 := h0.pr.hP.cell (i := 0) rfl
  have cp1 := h0.pr.hP.cell (i := 1) rfl
  have cp2 := h0.pr.hP.cell (i := 2) rfl
  have HWL : Hid (W.length ≤ 1024) := Lib.hid (by rw [h0.pr.hm.ok.len]; exact h0.pr.hm.room_le.1)
  go_enter Tryd.func18, Tryd.ntmps18
  go_upto_region 1 with fail
  rw [← hw0, ← hD]
  clear h hrd hw0 hD h0 hK hN hb0
  go_wp2_with (first
    | (go_at_call 32
       refine (words_calls H0.out.pr.hm).mono ?_
       rintro e w1 ⟨v1, rfl, hn1⟩
       have hb1 := hn1.bel
       have h1 := H0.out.below hb1
       have cq0 := h1.pr.hP.cell (i := 0) rfl
       have cq1 := h1.pr.hP.cell (i := 1) rfl
       have cq2 := h1.pr.hP.cell (i := 2) rfl
       have H1 := Lib.hid h1
       have HB1 := Lib.hid hb1
       have HN1 := Lib.hid hn1
       clear hb1 h1 hn1)
    | (go_at_call 63
       refine (rwords_calls H1.out.pr.hr).mono ?_
       rintro e w2 ⟨v2, rfl, hn2⟩
       rw [Bm.pack_bools H1.out.pr.hm.ok] at hn2
       have hb2 := hn2.bel
       have h2 := H1.out.below hb2
       have H2 := Lib.hid h2
       have HB2 := Lib.hid hb2
       have HN2 := Lib.hid hn2
       have hsw := sameWords_calls (((HN1.out.ou (by have := HWL.out; omega)).ru).below hb2) (hn2.ru (by have := HWL.out; omega))
       have HSW := Lib.hid hsw
       clear hb2 h2 hn2 hsw)
    | (go_at_call 22
       refine HSW.out.out.mono ?_
       rintro e w3 ⟨rfl, hb3⟩
       have h3 := H2.out.below hb3
       have cr2 := h3.pr.hP.cell (i := 2) rfl
       have H3 := Lib.hid h3
       have HB3 := Lib.hid hb3
       clear hb3 h3)
    | (go_at_call 23
       have hO3 := ((HN1.out.ou (by have := HWL.out; omega)).below HB2.out).below HB3.out
       refine (HK.out.run H3.out.bk (hO3.more (Nat.zero_le _)) (by have := HWL.out; omega) (fun g e e' => by have h1 := (hO3.lt g e).1; have h2 := HH.out.bk.lt g e'; have h3 := HB0.out.size; omega) HN.out).mono ?_
       rintro e w4 ⟨rfl, own', hbok, hlow, hm⟩
       have HO3 := Lib.hid hO3
       have HBOK := Lib.hid hbok
       have HLOW := Lib.hid hlow
       have HM := Lib.hid hm
       clear hO3 hbok hlow hm)
    | fail)
  go_ret
  have hs0 := HB0.out.size
  have hs1 := HB1.out.size
  have hs2 := HB2.out.size
  have hs3 := HB3.out.size
  have hlt := fun g e => (HO3.out.lt g e).1
  refine ⟨rfl, own', HBOK.out, fun k hk => (HLOW.out k (by omega)).trans ⟨fun e => e.elim id fun e => by have := hlt k e; omega, .inl⟩, ?_⟩
  exact ((((Mod.of_below HB0.out).onB HB1.out).onB HB2.out).onB HB3.out).on HM.out (fun k e => e.elim .inl fun e => .inr (by have := hlt k e; omega))
set_option maxHeartbeats 8000000 in
theorem ask_summary {w : World} {P p bw ba r bb b n N : Nat} {W : List UInt64} {own : Nat → Prop} {late : Bool} (hK : KeepC late) (hN : N + 2 ≤ 5864062014805) (h : PrB w P p bw ba r bb b n W own late N) (s2 wv bf ac ag : Value) (A B : Int) :
    Calls Tryd.prog 18 #[.pointer (some ⟨P, 0, none⟩), .agg #[.int .i64 13, s2, .int .i64 A, .int .i64 B, wv, bf, ac, ag]] w (AskP w b own late N) := by
  obtain ⟨w0, D, hw0, hD, hrd, hb0⟩ := boxedOp w [.int .i64 13, s2, .int .i64 A, .int .i64 B, wv, bf, ac, ag]
  have HH := Lib.hid h
  have h0 := h.below hb0
  have HB0 := Lib.hid hb0
  have H0 := Lib.hid h0
  have HK := Lib.hid hK
  have HN := Lib.hid hN
  have cd0 := hrd.cell (i := 0) rfl
  have cp0 := h0.pr.hP.cell (i := 0) rfl
  have cp1 := h0.pr.hP.cell (i := 1) rfl
  have cp2 := h0.pr.hP.cell (i := 2) rfl
  have HWL : Hid ((Bm.upper W).length ≤ 1024) := Lib.hid (by rw [Bm.upper_length, h0.pr.hm.ok.len]; have := h0.pr.hm.room_le.2; omega)
  go_enter Tryd.func18, Tryd.ntmps18
  go_upto_region 1 with fail
  rw [← hw0, ← hD]
  clear h hrd hw0 hD h0 hK hN hb0
  go_wp2_with (first
    | (go_at_call 64
       refine (summary_calls H0.out.pr.hm).mono ?_
       rintro e w1 ⟨v1, rfl, hn1⟩
       have hb1 := hn1.bel
       have h1 := H0.out.below hb1
       have cq0 := h1.pr.hP.cell (i := 0) rfl
       have cq1 := h1.pr.hP.cell (i := 1) rfl
       have cq2 := h1.pr.hP.cell (i := 2) rfl
       have H1 := Lib.hid h1
       have HB1 := Lib.hid hb1
       have HN1 := Lib.hid hn1
       clear hb1 h1 hn1)
    | (go_at_call 65
       refine (rsummary_calls H1.out.pr.hr).mono ?_
       rintro e w2 ⟨v2, rfl, hn2⟩
       rw [Bm.pack_bools H1.out.pr.hm.ok] at hn2
       have hb2 := hn2.bel
       have h2 := H1.out.below hb2
       have H2 := Lib.hid h2
       have HB2 := Lib.hid hb2
       have HN2 := Lib.hid hn2
       have hsw := sameWords_calls (((HN1.out.ou (by have := HWL.out; omega)).ru).below hb2) (hn2.ru (by have := HWL.out; omega))
       have HSW := Lib.hid hsw
       clear hb2 h2 hn2 hsw)
    | (go_at_call 22
       refine HSW.out.out.mono ?_
       rintro e w3 ⟨rfl, hb3⟩
       have h3 := H2.out.below hb3
       have cr2 := h3.pr.hP.cell (i := 2) rfl
       have H3 := Lib.hid h3
       have HB3 := Lib.hid hb3
       clear hb3 h3)
    | (go_at_call 23
       have hO3 := ((HN1.out.ou (by have := HWL.out; omega)).below HB2.out).below HB3.out
       refine (HK.out.run H3.out.bk (hO3.more (Nat.zero_le _)) (by have := HWL.out; omega) (fun g e e' => by have h1 := (hO3.lt g e).1; have h2 := HH.out.bk.lt g e'; have h3 := HB0.out.size; omega) HN.out).mono ?_
       rintro e w4 ⟨rfl, own', hbok, hlow, hm⟩
       have HO3 := Lib.hid hO3
       have HBOK := Lib.hid hbok
       have HLOW := Lib.hid hlow
       have HM := Lib.hid hm
       clear hO3 hbok hlow hm)
    | fail)
  go_ret
  have hs0 := HB0.out.size
  have hs1 := HB1.out.size
  have hs2 := HB2.out.size
  have hs3 := HB3.out.size
  have hlt := fun g e => (HO3.out.lt g e).1
  refine ⟨rfl, own', HBOK.out, fun k hk => (HLOW.out k (by omega)).trans ⟨fun e => e.elim id fun e => by have := hlt k e; omega, .inl⟩, ?_⟩
  exact ((((Mod.of_below HB0.out).onB HB1.out).onB HB2.out).onB HB3.out).on HM.out (fun k e => e.elim .inl fun e => .inr (by have := hlt k e; omega))
end Go.Proofs.YtckbckdaffdjmaaDoor

/- ask: Test, CountRange, Next, NextClear; any other kind. -/
namespace Go.Proofs.YtckbckdaffdjmaaDoor
open Go.RowKit
set_option maxRecDepth 100000
set_option linter.unusedVariables false
set_option linter.unusedSimpArgs false

namespace Bm
/-- What Test tells of any number. -/
def tB (n : Nat) (W : List UInt64) (i : Int) : Bool := decide (0 ≤ i ∧ i < n) && bit W i.toNat
def tE (n : Nat) (i : Int) : Nat := if i < 0 ∨ (n : Int) ≤ i then 2 else 0
/-- What CountRange tells of any range. -/
def crV (n : Nat) (W : List UInt64) (f c : Int) : Nat := if rangeE n f c = 0 then cnt (bit W) f.toNat c.toNat else 0
end Bm
section
variable {w : World} {p bw ba n : Nat} {W : List UInt64} {r bb : Nat}
theorem test_any (h : BM w p bw ba n W) (i : Int) : Pur Tryd.prog 29 #[.pointer (some ⟨p, 0, none⟩), .int .i64 i] w (.tuple #[.bool (Bm.tB n W i), .int .i64 (Bm.tE n i : Nat)]) := by
  unfold Bm.tB Bm.tE
  by_cases hi : i < 0 ∨ (n : Int) ≤ i
  · rw [if_pos hi, decide_eq_false (by omega)]; exact test_err h hi
  · obtain ⟨m, rfl⟩ : ∃ m : Nat, i = m := ⟨i.toNat, by omega⟩
    rw [if_neg hi, decide_eq_true (by omega), Bool.true_and, Int.toNat_natCast]
    exact test_calls h (by omega)
theorem rtest_any (h : RM w r bb (Bm.bools n W)) (i : Int) : Pur Tryd.prog 58 #[.pointer (some ⟨r, 0, none⟩), .int .i64 i] w (.tuple #[.bool (Bm.tB n W i), .int .i64 (Bm.tE n i : Nat)]) := by
  unfold Bm.tB Bm.tE
  by_cases hi : i < 0 ∨ (n : Int) ≤ i
  · rw [if_pos hi, decide_eq_false (by omega)]; exact rtest_err h (by rw [Bm.bools_length]; exact hi)
  · obtain ⟨m, rfl⟩ : ∃ m : Nat, i = m := ⟨i.toNat, by omega⟩
    rw [if_neg hi, decide_eq_true (by omega), Bool.true_and, Int.toNat_natCast]
    have := rtest_calls h (i := m) (by rw [Bm.bools_length]; omega)
    rw [Bm.bools_getD, decide_eq_true (by omega), Bool.true_and] at this
    exact this
theorem countrange_any (h : BM w p bw ba n W) {f c : Int} (h1 : (Lit.int .i64 f).wf = true) (h2 : (Lit.int .i64 c).wf = true) : Pur Tryd.prog 39 #[.pointer (some ⟨p, 0, none⟩), .int .i64 f, .int .i64 c] w (.tuple #[.int .i64 (Bm.crV n W f c : Nat), .int .i64 (Bm.rangeE n f c : Nat)]) := by
  unfold Bm.crV
  by_cases he : Bm.rangeE n f c = 0
  · obtain ⟨k1, k2, k3, k4⟩ := Bm.rangeE_ok he
    rw [if_pos he, he]
    obtain ⟨a, rfl⟩ : ∃ a : Nat, f = a := ⟨f.toNat, by omega⟩
    obtain ⟨b, rfl⟩ : ∃ b : Nat, c = b := ⟨c.toNat, by omega⟩
    rw [Int.toNat_natCast, Int.toNat_natCast]
    exact countrange_calls h (by omega)
  · rw [if_neg he]; exact countrange_err h h1 h2 he
theorem rcountrange_any (h : RM w r bb (Bm.bools n W)) {f c : Int} (h1 : (Lit.int .i64 f).wf = true) (h2 : (Lit.int .i64 c).wf = true) : Pur Tryd.prog 60 #[.pointer (some ⟨r, 0, none⟩), .int .i64 f, .int .i64 c] w (.tuple #[.int .i64 (Bm.crV n W f c : Nat), .int .i64 (Bm.rangeE n f c : Nat)]) := by
  unfold Bm.crV
  by_cases he : Bm.rangeE n f c = 0
  · obtain ⟨k1, k2, k3, k4⟩ := Bm.rangeE_ok he
    rw [if_pos he, he]
    obtain ⟨a, rfl⟩ : ∃ a : Nat, f = a := ⟨f.toNat, by omega⟩
    obtain ⟨b, rfl⟩ : ∃ b : Nat, c = b := ⟨c.toNat, by omega⟩
    rw [Int.toNat_natCast, Int.toNat_natCast]
    have := rcountrange_calls h (f := a) (c := b) (by rw [Bm.bools_length]; omega)
    rw [Bm.cnt_congr (g := Bm.bit W) (b := a) b (fun t ht => by rw [Bm.bools_getD, decide_eq_true (by omega), Bool.true_and])] at this
    exact this
  · rw [if_neg he]
    have := rcountrange_err h h1 h2 (by rw [Bm.bools_length]; exact he)
    rw [Bm.bools_length] at this
    exact this
theorem rfind_true (h : RM w r bb (Bm.bools n W)) {f : Int} (hw : (Lit.int .i64 f).wf = true) : Pur Tryd.prog 61 #[.pointer (some ⟨r, 0, none⟩), .int .i64 f, .bool true] w (.int .i64 (Bm.find (Bm.bit W) n f.toNat)) := by
  have := rfind_calls h hw true
  rw [Bm.bools_length, Bm.find_congr (g' := Bm.bit W) (fun t ht => by rw [Bm.bools_getD, decide_eq_true ht, Bool.true_and]; cases Bm.bit W t <;> rfl)] at this
  exact this
theorem rfind_false (h : RM w r bb (Bm.bools n W)) {f : Int} (hw : (Lit.int .i64 f).wf = true) : Pur Tryd.prog 61 #[.pointer (some ⟨r, 0, none⟩), .int .i64 f, .bool false] w (.int .i64 (Bm.find (fun t => !Bm.bit W t) n f.toNat)) := by
  have := rfind_calls h hw false
  rw [Bm.bools_length, Bm.find_congr (g' := fun t => !Bm.bit W t) (fun t ht => by rw [Bm.bools_getD, decide_eq_true ht, Bool.true_and]; cases Bm.bit W t <;> rfl)] at this
  exact this
end
end Go.Proofs.YtckbckdaffdjmaaDoor
