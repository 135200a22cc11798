/- Regions that draw their order, walked once in the order of the text: every operation comes to one value at every world of a family R and leaves a world of R. Then so does every order. With it a tail that stands behind all the rest. -/
import Derived.Test.YtckbckdaffdjmaaDoorBase
import Derived.StillTail
namespace Go.Proofs.YtckbckdaffdjmaaDoor
section
variable {P : Program} {ops : Array Oper} {md : Region.Mode} {R : World → Prop}

def Gives (P : Program) (R : World → Prop) (v : Value) : Result Next → Prop
  | .ok (.value u) w' => u = v ∧ R w'
  | .ok .skip w' => v = undef ∧ R w'
  | .ok (.enter f args) w' => Calls P f args w' (fun e w'' => e = .returned v ∧ R w'')
  | _ => False

theorem gives_value {v u : Value} {w : World} : Gives P R v (.ok (.value u) w) = (u = v ∧ R w) := rfl
theorem gives_skip {v : Value} {w : World} : Gives P R v (.ok .skip w) = (v = undef ∧ R w) := rfl
theorem gives_enter {v : Value} {w : World} {f : FuncId} {args : Array Value} : Gives P R v (.ok (.enter f args) w) = Calls P f args w (fun e w'' => e = .returned v ∧ R w'') := rfl

/-- The operation comes to v at every world of R. -/
def OpR (P : Program) (R : World → Prop) (o : Oper) (a : Act) (v : Value) : Prop := ∀ w, R w → Gives P R v ((execOp a.eval o).run P w)

def wpR (P : Program) (ops : Array Oper) (R : World → Prop) (Q : Act → Prop) : List Oper → Act → Prop
  | [], a => Q a
  | o :: rest, a => if Region.wanted o (yielded ops a.tmps) = true then ∃ v, OpR P R o a v ∧ wpR P ops R Q rest (a.put o.dst v) else wpR P ops R Q rest (a.put o.dst undef)

def StR (P : Program) (ops : Array Oper) (R : World → Prop) (i : Nat) (K : Act → Prop) (a : Act) : Prop :=
  match ops[i]? with
  | none => K a
  | some o => if Region.wanted o (yielded ops a.tmps) = true then ∃ v, OpR P R o a v ∧ K (a.put o.dst v) else K (a.put o.dst undef)

theorem StR.mono {i : Nat} {a : Act} {K K' : Act → Prop} (h : ∀ a, K a → K' a) (hh : StR P ops R i K a) : StR P ops R i K' a := by
  unfold StR at *
  split
  · exact h _ (by simpa [*] using hh)
  · rename_i o ho
    simp only [ho] at hh
    split
    · rename_i hw; rw [if_pos hw] at hh; obtain ⟨v, h1, h2⟩ := hh; exact ⟨v, h1, h _ h2⟩
    · rename_i hw; rw [if_neg hw] at hh; exact h _ hh

theorem wpOp_of_StR {i : Nat} {a : Act} {w : World} {K : Act → Prop} {K' : Act → World → Prop} {Q' : Exit → Act → World → Prop} (hR : R w) (h : ∀ a w, R w → K a → K' a w) (hh : StR P ops R i K a) :
    wpOp P ops Q' i K' a w := by
  unfold StR at hh
  unfold wpOp
  split
  · rename_i ho; simp only [ho] at hh; exact h _ _ hR hh
  · rename_i o ho
    simp only [ho] at hh
    split
    · rename_i hw
      rw [if_pos hw] at hh
      obtain ⟨v, h1, h2⟩ := hh
      refine .inl ?_
      have h3 := h1 w hR
      unfold Oper.wp
      generalize (execOp a.eval o).run P w = r at h3
      cases r with
      | ok n w' =>
        cases n <;> simp only [Gives] at h3 <;> simp only [Oper.upon]
        case value u => obtain ⟨rfl, h4⟩ := h3; exact h _ _ h4 h2
        case skip => obtain ⟨rfl, h4⟩ := h3; exact h _ _ h4 h2
        case enter f args => exact Calls.mono h3 fun e w'' ⟨he, hw⟩ => by subst he; exact h _ _ hw h2
      | halt x w' => simp only [Gives] at h3
    · rename_i hw
      rw [if_neg hw] at hh
      exact h _ _ hR hh

def YieldsR (P : Program) (ops : Array Oper) (R : World → Prop) (o : Oper) (v : Value) (a : Act) : Prop :=
  (Region.wanted o (yielded ops a.tmps) = true ∧ OpR P R o a v) ∨ (Region.wanted o (yielded ops a.tmps) = false ∧ v = undef)

theorem YieldsR.stR {i : Nat} {o : Oper} {v : Value} {a : Act} (hi : ops[i]? = some o) (hy : YieldsR P ops R o v a) {K : Act → Prop} (h : K (a.put o.dst v)) : StR P ops R i K a := by
  unfold StR
  simp only [hi]
  rcases hy with ⟨hw, hv⟩ | ⟨hw, rfl⟩
  · rw [if_pos hw]; exact ⟨v, hv, h⟩
  · rw [if_neg (by rw [hw]; decide)]; exact h

theorem YieldsR.of_same {o : Oper} {v : Value} {a a' : Act} (hy : YieldsR P ops R o v a) (he : execOp a'.eval o = execOp a.eval o)
    (hw : Region.wanted o (yielded ops a'.tmps) = Region.wanted o (yielded ops a.tmps)) : YieldsR P ops R o v a' := by
  unfold YieldsR OpR at *
  rw [he, hw]
  exact hy

theorem yieldsR_of_stR {i : Nat} {o : Oper} {a : Act} {K : Act → Prop} (hi : ops[i]? = some o) (h : StR P ops R i K a) : ∃ v, YieldsR P ops R o v a ∧ K (a.put o.dst v) := by
  unfold StR at h
  simp only [hi] at h
  by_cases hw : Region.wanted o (yielded ops a.tmps) = true
  · rw [if_pos hw] at h
    obtain ⟨v, h1, h2⟩ := h
    exact ⟨v, .inl ⟨hw, h1⟩, h2⟩
  · rw [if_neg hw] at h
    exact ⟨undef, .inr ⟨by simpa using hw, rfl⟩, h⟩

theorem stR_put {j : Nat} {oi oj : Oper} {v : Value} (hj : ops[j]? = some oj) (hap : oi.apart ops oj = true)
    (hsi : ∀ cs b, oi.op ≠ .select cs b) (hsj : ∀ cs b, oj.op ≠ .select cs b) {K : Act → Prop} {a : Act}
    (hy : YieldsR P ops R oi v a) (h : StR P ops R j K (a.put oi.dst v)) :
    StR P ops R j (fun a' => YieldsR P ops R oi v a' ∧ K (a'.put oi.dst v)) a := by
  obtain ⟨h1, h2, h3⟩ := Oper.apart_spec hap
  have keep : ∀ (a : Act), YieldsR P ops R oi v a → ∀ u, YieldsR P ops R oi v (a.put oj.dst u) := fun a hy u =>
    hy.of_same (execOp_put oi hsi a oj.dst u h3) (wanted_put oi a oj.dst u h3)
  obtain ⟨u, hu, hK⟩ := yieldsR_of_stR hj h
  have hu' : YieldsR P ops R oj u a := hu.of_same (execOp_put oj hsj a oi.dst v h1).symm (wanted_put oj a oi.dst v h1).symm
  exact hu'.stR hj ⟨keep a hy u, by rw [← Act.put_comm a v u h2]; exact hK⟩

/-! ### the head: operations below n, in any order; then L. -/

def wpAnyLR (P : Program) (md : Region.Mode) (ops : Array Oper) (R : World → Prop) (n : Nat) (L : Array Bool → Act → Prop) : Nat → Array Bool → Act → Prop
  | 0, listed, a => L listed a
  | f + 1, listed, a =>
    Region.ready md ops listed ≠ [] ∧ ∀ i ∈ Region.ready md ops listed, i < n ∧ StR P ops R i (wpAnyLR P md ops R n L f (listed.setIfInBounds i true)) a

theorem wpAny_of_headR {n g : Nat} {L : Array Bool → Act → Prop} {Q' : Exit → Act → World → Prop} (hL : ∀ listed a w, R w → L listed a → wpAny P md ops Q' g listed a w) :
    ∀ (f : Nat) (listed : Array Bool) (a : Act) (w : World), R w → wpAnyLR P md ops R n L f listed a → wpAny P md ops Q' (f + g) listed a w
  | 0, listed, a, w, hw, h => by rw [Nat.zero_add]; exact hL _ _ _ hw h
  | f + 1, listed, a, w, hw, h => by
    rw [show f + 1 + g = (f + g) + 1 by omega]
    exact ⟨fun h0 => absurd h0 h.1, fun i hi => wpOp_of_StR hw (fun a' w' hw' h' => wpAny_of_headR hL f _ a' w' hw' h') (h.2 i hi).2⟩

theorem wpAnyLR_first {n i : Nat} {oi : Oper} {v : Value} {L : Array Bool → Act → Prop} (hi : ops[i]? = some oi) (hsel : ∀ (j : Nat) (o : Oper) cs b, ops[j]? = some o → o.op ≠ .select cs b)
    (hin : i < n) (hwait : ∀ listed, HeadInv md ops n listed → listed.getD i true = false → ∀ j ∈ Region.ready md ops listed, j < n)
    (hdone : ∀ listed a, L listed a → ∀ j ∈ Region.ready md ops listed, n ≤ j) :
    ∀ (f : Nat) (listed : Array Bool) (a : Act), HeadInv md ops n listed →
      (∀ j oj, ops[j]? = some oj → j ≠ i → listed.getD j true = false → (∀ e ∈ oj.after, Region.binds md e = true → e.on ≠ i) → oi.apart ops oj = true) →
      i ∈ Region.ready md ops listed → YieldsR P ops R oi v a →
      wpAnyLR P md ops R n L f (listed.setIfInBounds i true) (a.put oi.dst v) → wpAnyLR P md ops R n L (f + 1) listed a := by
  intro f
  induction f with
  | zero =>
    intro listed a inv _ hr hy H
    have hun := (mem_ready.1 hr).1
    refine ⟨fun h => (by rw [h] at hr; cases hr), fun j hj => ?_⟩
    have hjn : j < n := hwait listed inv hun j hj
    refine ⟨hjn, ?_⟩
    by_cases hji : j = i
    · subst hji; exact hy.stR hi H
    · have := hdone _ _ H j (ready_mono hj hji)
      omega
  | succ f ih =>
    intro listed a inv hfree hr hy H
    have hun := (mem_ready.1 hr).1
    refine ⟨fun h => (by rw [h] at hr; cases hr), fun j hj => ?_⟩
    have hjn : j < n := hwait listed inv hun j hj
    refine ⟨hjn, ?_⟩
    by_cases hji : j = i
    · subst hji; exact hy.stR hi H
    · have h1 := (H.2 j (ready_mono hj hji)).2
      obtain ⟨hjun, oj, hoj, hall⟩ := mem_ready.1 hj
      have hnot : ∀ e ∈ oj.after, Region.binds md e = true → e.on ≠ i := fun e he hb heq => by
        have h1 := hall e he hb
        rw [heq, getD_both hun] at h1
        cases h1
      have h2 := stR_put hoj (hfree j oj hoj hji hjun hnot) (fun cs b => hsel i oi cs b hi) (fun cs b => hsel j oj cs b hoj) hy h1
      have hfree' : ∀ k ok, ops[k]? = some ok → k ≠ i → (listed.setIfInBounds j true).getD k true = false →
          (∀ e ∈ ok.after, Region.binds md e = true → e.on ≠ i) → oi.apart ops ok = true := fun k ok hk hki hun hno => by
        refine hfree k ok hk hki ?_ hno
        by_cases hjk : j = k
        · subst hjk; exact hjun
        · rw [getD_set_ne true hjk] at hun; exact hun
      refine StR.mono (fun a' h3 => ih (listed.setIfInBounds j true) a' (inv.set hj hjn) hfree' (ready_mono hr (Ne.symm hji)) h3.1 ?_) h2
      rw [Array.setIfInBounds_comm _ _ hji]
      exact h3.2

theorem wpAnyLR_lex {n g : Nat} {Lq : Act → Prop} (hsel : Region.noSelect ops = true)
    (hwait : ∀ i, i < n → ∀ listed, HeadInv md ops n listed → listed.getD i true = false → ∀ j ∈ Region.ready md ops listed, j < n) :
    ∀ (l : List Oper) (k : Nat) (listed : Array Bool) (a : Act), (∀ j, j < l.length → l[j]? = ops[k + j]?) → k + l.length = n → HeadInv md ops n listed →
    Region.lexHead md ops g l.length k listed = true → wpR P ops R Lq l a →
    wpAnyLR P md ops R n (fun listed' a' => Region.seqB md ops g n listed' = true ∧ Lq a') l.length listed a
  | [], k, listed, a, _, hk, _, hB, h => by
    have : k = n := by simpa using hk
    subst this
    exact ⟨by simpa [Region.lexHead] using hB, h⟩
  | o :: l, k, listed, a, hl, hk, inv, hB, h => by
    have h0 : ops[k]? = some o := by simpa using (hl 0 (by simp)).symm
    simp only [List.length_cons, Region.lexHead, Bool.and_eq_true] at hB
    obtain ⟨⟨hr, hf⟩, hB'⟩ := hB
    have hkn : k < n := by simp only [List.length_cons] at hk; omega
    have hr' : k ∈ Region.ready md ops listed := by simpa using hr
    have hst : StR P ops R k (wpR P ops R Lq l) a := by unfold StR; simp only [h0]; exact h
    obtain ⟨v, hy, hK⟩ := yieldsR_of_stR h0 hst
    exact wpAnyLR_first h0 (Region.noSelect_spec hsel) hkn (hwait k hkn) (fun listed' a' hL => seqB_ready hL.1) l.length listed a inv (Region.free_spec h0 hf) hr' hy
      (wpAnyLR_lex hsel hwait l (k + 1) _ _ (fun j hj => by have := hl (j + 1) (by simp; omega); simpa [Nat.add_assoc, Nat.add_comm 1 j] using this) (by simp only [List.length_cons] at hk; omega) (inv.set hr' hkn) hB' hK)

/-- A region that draws, its first n operations in R, the others behind them, one after the other. -/
theorem wp_region_R_tail {id : Nat} {Q : Exit → Act → World → Prop} {a : Act} {w : World} {l : List Oper} (R : World → Prop) (n : Nat) (hm : P.follows .mixedOrders = true) (hB : Region.lexTailB .any l.toArray n = true)
    (hR : R { w with drawn := w.drawn + 1 })
    (h : wpR P l.toArray R (fun a' => ∀ w', R w' → wpList P l.toArray Q (l.drop n) a' w') (l.take n) a) : (Code.region id l.toArray true).wp P Q a w := by
  simp only [Region.lexTailB, Bool.and_eq_true, decide_eq_true_eq] at hB
  obtain ⟨⟨⟨⟨hsel, hn⟩, hs⟩, hc⟩, hlex⟩ := hB
  have hn' : n < l.length := by simpa using hn
  have htl : (l.take n).length = n := by simp; omega
  have hdl : (l.drop n).length = l.toArray.size - n := by simp
  have inv0 : HeadInv .any l.toArray n (Array.replicate l.toArray.size false) :=
    ⟨by simp, fun j oj _ hl => (by rw [getD_replicate_false] at hl; cases hl), fun t _ ht => getD_in (by simpa using ht) (getD_replicate_false _ _)⟩
  have hwait : ∀ i, i < n → ∀ listed, HeadInv .any l.toArray n listed → listed.getD i true = false → ∀ j ∈ Region.ready .any l.toArray listed, j < n := fun i hi listed inv hun j hj => by
    rcases Nat.lt_or_ge j n with h' | h'
    · exact h'
    · exact absurd hj (tail_waits hs hc hn inv _ i rfl hi hun j h')
  have H := wpAnyLR_lex (md := .any) (g := l.toArray.size - n) (R := R) hsel hwait (l.take n) 0 _ a (fun j hj => by
    have hj' : j < n := by rw [htl] at hj; exact hj
    simp [hj']) (by simpa using htl) inv0 (by rw [htl]; exact hlex) h
  have e : (l.take n).length + (l.toArray.size - n) = l.toArray.size := by simp; omega
  have H2 := wpAny_of_headR (R := R) (g := l.toArray.size - n) (Q' := Q) (fun listed' a' w' hw' hL => by
    have hseq := hL.1
    rw [← hdl] at hseq ⊢
    exact wpAny_of_seq (l.drop n) n listed' a' w' (fun j => by simp) hseq (hL.2 w' hw')) _ _ a _ hR H
  rw [e] at H2
  exact wp_region_any hm H2

/-- A region that draws, all of it in R. -/
theorem wp_region_R {id : Nat} {Q : Exit → Act → World → Prop} {a : Act} {w : World} {l : List Oper} (R : World → Prop) (hm : P.follows .mixedOrders = true) (hB : Region.lexB .any l.toArray = true)
    (hR : R { w with drawn := w.drawn + 1 })
    (h : wpR P l.toArray R (fun a' => ∀ w', R w' → Q .normal a' w') l a) : (Code.region id l.toArray true).wp P Q a w := by
  simp only [Region.lexB, Bool.and_eq_true] at hB
  have inv0 : HeadInv .any l.toArray l.length (Array.replicate l.toArray.size false) :=
    ⟨by simp, fun j oj _ hl => (by rw [getD_replicate_false] at hl; cases hl), fun t _ ht => getD_in (by simpa using ht) (getD_replicate_false _ _)⟩
  have hlex : Region.lexHead .any l.toArray 0 l.length 0 (Array.replicate l.toArray.size false) = true := by
    have key : ∀ (f k : Nat) (listed : Array Bool), Region.lexFrom .any l.toArray f k listed = true → Region.lexHead .any l.toArray 0 f k listed = true := by
      intro f
      induction f with
      | zero => intro k listed h; simpa [Region.lexHead, Region.seqB, Region.lexFrom] using h
      | succ f ih =>
        intro k listed h
        simp only [Region.lexFrom, Bool.and_eq_true] at h
        simp only [Region.lexHead, Bool.and_eq_true]
        exact ⟨h.1, ih _ _ h.2⟩
    exact key _ _ _ (by simpa using hB.2)
  have hwait : ∀ i, i < l.length → ∀ listed, HeadInv .any l.toArray l.length listed → listed.getD i true = false → ∀ j ∈ Region.ready .any l.toArray listed, j < l.length := fun i hi listed inv hun j hj => by
    obtain ⟨_, o, ho, _⟩ := mem_ready.1 hj
    simpa using (Array.getElem?_eq_some_iff.1 ho).1
  have H := wpAnyLR_lex (md := .any) (g := 0) (R := R) hB.1 hwait l 0 _ a (fun j hj => by simp) (by simp) inv0 hlex h
  have H2 := wpAny_of_headR (R := R) (g := 0) (Q' := Q) (fun listed' a' w' hw' hL => ⟨by simpa [Region.seqB] using hL.1, hL.2 w' hw'⟩) _ _ a _ hR H
  exact wp_region_any hm H2

theorem wpR_nil {Q : Act → Prop} {a : Act} (h : Q a) : wpR P ops R Q [] a := h
theorem wpR_plain {Q : Act → Prop} {a : Act} {o : Oper} {rest : List Oper} (v : Value) (hg : o.guard = none) (hv : OpR P R o a v) (h : wpR P ops R Q rest (a.put o.dst v)) : wpR P ops R Q (o :: rest) a := by
  unfold wpR
  rw [if_pos (by simp [Region.wanted, hg])]
  exact ⟨v, hv, h⟩
/-- One operation that only computes or reads. -/
theorem wpR_val {Q : Act → Prop} {a : Act} {o : Oper} {rest : List Oper} {v : Value} (hg : o.guard = none) (hv : ∀ w, R w → (execOp a.eval o).run P w = .ok (.value v) w) (h : wpR P ops R Q rest (a.put o.dst v)) : wpR P ops R Q (o :: rest) a :=
  wpR_plain v hg (fun w hw => by rw [hv w hw]; exact ⟨rfl, hw⟩) h
/-- One call, by its contract. -/
theorem wpR_call {Q : Act → Prop} {a : Act} {o : Oper} {rest : List Oper} {v : Value} {f : FuncId} {args : Array Value} (hg : o.guard = none) (hv : ∀ w, R w → (execOp a.eval o).run P w = .ok (.enter f args) w)
    (hc : ∀ w, R w → Calls P f args w (fun e w'' => e = .returned v ∧ R w'')) (h : wpR P ops R Q rest (a.put o.dst v)) : wpR P ops R Q (o :: rest) a :=
  wpR_plain v hg (fun w hw => by rw [hv w hw]; exact hc w hw) h
/-- The same under a guard that is met. -/
theorem wpR_val_want {Q : Act → Prop} {a : Act} {o : Oper} {rest : List Oper} {v : Value} (hg : Region.wanted o (yielded ops a.tmps) = true) (hv : ∀ w, R w → (execOp a.eval o).run P w = .ok (.value v) w) (h : wpR P ops R Q rest (a.put o.dst v)) : wpR P ops R Q (o :: rest) a := by
  unfold wpR
  rw [if_pos hg]
  exact ⟨v, fun w hw => by rw [hv w hw]; exact ⟨rfl, hw⟩, h⟩
theorem wpR_call_want {Q : Act → Prop} {a : Act} {o : Oper} {rest : List Oper} {v : Value} {f : FuncId} {args : Array Value} (hg : Region.wanted o (yielded ops a.tmps) = true) (hv : ∀ w, R w → (execOp a.eval o).run P w = .ok (.enter f args) w)
    (hc : ∀ w, R w → Calls P f args w (fun e w'' => e = .returned v ∧ R w'')) (h : wpR P ops R Q rest (a.put o.dst v)) : wpR P ops R Q (o :: rest) a := by
  unfold wpR
  rw [if_pos hg]
  exact ⟨v, fun w hw => by rw [hv w hw]; exact hc w hw, h⟩
theorem wpR_want {Q : Act → Prop} {a : Act} {o : Oper} {rest : List Oper} (v : Value) (hw : Region.wanted o (yielded ops a.tmps) = true) (hv : OpR P R o a v) (h : wpR P ops R Q rest (a.put o.dst v)) : wpR P ops R Q (o :: rest) a := by
  unfold wpR
  rw [if_pos hw]
  exact ⟨v, hv, h⟩
theorem wpR_pass {Q : Act → Prop} {a : Act} {o : Oper} {rest : List Oper} (hw : Region.wanted o (yielded ops a.tmps) = false) (h : wpR P ops R Q rest (a.put o.dst undef)) : wpR P ops R Q (o :: rest) a := by
  unfold wpR
  rw [if_neg (by rw [hw]; decide)]
  exact h
end
end Go.Proofs.YtckbckdaffdjmaaDoor
