/- A region that draws its order and holds WRITERS (an alloc, a call that writes, buildSlice, append ..) that wait for one another, among operations that leave what is known as it is. It is walked once, in an order of one's own choice (ord): all that a writer does not wait for stands ahead of it there. RL g w: what is known of the world, g the values of the writers so far. -/
import Derived.Test.YtckbckdaffdjmaaDoorWb
import Derived.StillTail
namespace Go.Proofs.YtckbckdaffdjmaaDoor
open Go.RowKit
set_option linter.unusedVariables false
namespace Ph
section
variable {P : Program} {ops : Array Oper} {md : Region.Mode} {RL : List Value → World → Prop} {ws : Nat → Bool}

def Gives (P : Program) (R : Value → World → Prop) : Result Next → Prop
  | .ok (.value u) w' => R u w'
  | .ok .skip w' => R undef w'
  | .ok (.enter f args) w' => Calls P f args w' (fun e w'' => ∃ u, e = .returned u ∧ R u w'')
  | _ => False

/-- o comes to v, and leaves what is known: now, and behind later writers. -/
def ROk (P : Program) (RL : List Value → World → Prop) (o : Oper) (a : Act) (g : List Value) (v : Value) : Prop :=
  ∀ t w, RL (g ++ t) w → Gives P (fun u w' => u = v ∧ RL (g ++ t) w') ((execOp a.eval o).run P w)
/-- o writes: what is known behind it hangs on its value. -/
def WOk (P : Program) (RL : List Value → World → Prop) (o : Oper) (a : Act) (g : List Value) : Prop :=
  ∀ w, RL g w → Gives P (fun u w' => RL (g ++ [u]) w') ((execOp a.eval o).run P w)

def StP (P : Program) (ops : Array Oper) (RL : List Value → World → Prop) (ws : Nat → Bool) (i : Nat) (g : List Value) (K : List Value → Act → Prop) (a : Act) : Prop :=
  match ops[i]? with
  | none => K g a
  | some o =>
    if ws i = true then Region.wanted o (yielded ops a.tmps) = true ∧ WOk P RL o a g ∧ ∀ u, (∃ w, RL (g ++ [u]) w) → K (g ++ [u]) (a.put o.dst u)
    else if Region.wanted o (yielded ops a.tmps) = true then ∃ v, ROk P RL o a g v ∧ K g (a.put o.dst v) else K g (a.put o.dst undef)

theorem StP.mono {i : Nat} {g : List Value} {a : Act} {K K' : List Value → Act → Prop} (h : ∀ g a, K g a → K' g a) (hh : StP P ops RL ws i g K a) : StP P ops RL ws i g K' a := by
  unfold StP at *
  split
  · exact h _ _ (by simpa [*] using hh)
  · rename_i o ho
    simp only [ho] at hh
    split
    · rename_i hw; rw [if_pos hw] at hh; exact ⟨hh.1, hh.2.1, fun u hu => h _ _ (hh.2.2 u hu)⟩
    · rename_i hw
      rw [if_neg hw] at hh
      split
      · rename_i hn; rw [if_pos hn] at hh; obtain ⟨v, h1, h2⟩ := hh; exact ⟨v, h1, h _ _ h2⟩
      · rename_i hn; rw [if_neg hn] at hh; exact h _ _ hh

theorem wp_of_gives {o : Oper} {a : Act} {w : World} {R : Value → World → Prop} {K' : Act → World → Prop} {Q' : Exit → Act → World → Prop}
    (h : Gives P R ((execOp a.eval o).run P w)) (hk : ∀ u w', R u w' → K' (a.put o.dst u) w') : o.wp P a w K' Q' := by
  unfold Oper.wp
  generalize (execOp a.eval o).run P w = r at h
  cases r with
  | ok n w' =>
    cases n <;> simp only [Gives] at h <;> simp only [Oper.upon]
    case value u => exact hk _ _ h
    case skip => exact hk _ _ h
    case enter f args => exact Calls.mono h fun e w'' ⟨u, he, hw⟩ => by subst he; exact hk _ _ hw
  | halt x w' => simp only [Gives] at h

theorem wpOp_of_StP {i : Nat} {g : List Value} {a : Act} {w : World} {K : List Value → Act → Prop} {K' : Act → World → Prop} {Q' : Exit → Act → World → Prop} (hR : RL g w) (h : ∀ g a w, RL g w → K g a → K' a w) (hh : StP P ops RL ws i g K a) :
    wpOp P ops Q' i K' a w := by
  unfold StP at hh
  unfold wpOp
  split
  · rename_i ho; simp only [ho] at hh; exact h _ _ _ hR hh
  · rename_i o ho
    simp only [ho] at hh
    by_cases hws : ws i = true
    · rw [if_pos hws] at hh
      rw [if_pos hh.1]
      exact .inl (wp_of_gives (hh.2.1 w hR) fun u w' hw' => h _ _ _ hw' (hh.2.2 u ⟨w', hw'⟩))
    · rw [if_neg hws] at hh
      split
      · rename_i hn
        rw [if_pos hn] at hh
        obtain ⟨v, h1, h2⟩ := hh
        have h3 := h1 [] w (by simpa using hR)
        refine .inl (wp_of_gives h3 fun u w' ⟨he, hw'⟩ => ?_)
        subst he
        exact h _ _ _ (by simpa using hw') h2
      · rename_i hn
        rw [if_neg hn] at hh
        exact h _ _ _ hR hh

/-- The reader's value, now and behind later writers. -/
def YieldsP (P : Program) (ops : Array Oper) (RL : List Value → World → Prop) (o : Oper) (v : Value) (g : List Value) (a : Act) : Prop :=
  (Region.wanted o (yielded ops a.tmps) = true ∧ ROk P RL o a g v) ∨ (Region.wanted o (yielded ops a.tmps) = false ∧ v = undef)

theorem YieldsP.later {o : Oper} {v u : Value} {g : List Value} {a : Act} (h : YieldsP P ops RL o v g a) : YieldsP P ops RL o v (g ++ [u]) a := by
  rcases h with ⟨h1, h2⟩ | h
  · exact .inl ⟨h1, fun t w hw => by
      have := h2 ([u] ++ t) w (by rw [← List.append_assoc]; exact hw)
      rw [← List.append_assoc] at this; exact this⟩
  · exact .inr h

theorem YieldsP.stP {i : Nat} {o : Oper} {v : Value} {g : List Value} {a : Act} (hi : ops[i]? = some o) (hws : ws i = false) (hy : YieldsP P ops RL o v g a) {K : List Value → Act → Prop} (h : K g (a.put o.dst v)) : StP P ops RL ws i g K a := by
  unfold StP
  simp only [hi, hws]
  rw [if_neg (by decide)]
  rcases hy with ⟨hw, hv⟩ | ⟨hw, rfl⟩
  · rw [if_pos hw]; exact ⟨v, hv, h⟩
  · rw [if_neg (by rw [hw]; decide)]; exact h

theorem YieldsP.of_same {o : Oper} {v : Value} {g : List Value} {a a' : Act} (hy : YieldsP P ops RL o v g a) (he : execOp a'.eval o = execOp a.eval o)
    (hw : Region.wanted o (yielded ops a'.tmps) = Region.wanted o (yielded ops a.tmps)) : YieldsP P ops RL o v g a' := by
  unfold YieldsP ROk at *
  rw [he, hw]
  exact hy

theorem yieldsP_of_stP {i : Nat} {o : Oper} {g : List Value} {a : Act} {K : List Value → Act → Prop} (hi : ops[i]? = some o) (hws : ws i = false) (h : StP P ops RL ws i g K a) : ∃ v, YieldsP P ops RL o v g a ∧ K g (a.put o.dst v) := by
  unfold StP at h
  simp only [hi, hws] at h
  rw [if_neg (by decide)] at h
  by_cases hw : Region.wanted o (yielded ops a.tmps) = true
  · rw [if_pos hw] at h
    obtain ⟨v, h1, h2⟩ := h
    exact ⟨v, .inl ⟨hw, h1⟩, h2⟩
  · rw [if_neg hw] at h
    exact ⟨undef, .inr ⟨by simpa using hw, rfl⟩, h⟩

def wpAnyP (P : Program) (md : Region.Mode) (ops : Array Oper) (RL : List Value → World → Prop) (ws : Nat → Bool) (n : Nat) (L : Array Bool → List Value → Act → Prop) : Nat → Array Bool → List Value → Act → Prop
  | 0, listed, g, a => L listed g a
  | f + 1, listed, g, a =>
    Region.ready md ops listed ≠ [] ∧ ∀ i ∈ Region.ready md ops listed, i < n ∧ StP P ops RL ws i g (wpAnyP P md ops RL ws n L f (listed.setIfInBounds i true)) a

theorem wpAny_of_headP {n m : Nat} {L : Array Bool → List Value → Act → Prop} {Q' : Exit → Act → World → Prop} (hL : ∀ listed g a w, RL g w → L listed g a → wpAny P md ops Q' m listed a w) :
    ∀ (f : Nat) (listed : Array Bool) (g : List Value) (a : Act) (w : World), RL g w → wpAnyP P md ops RL ws n L f listed g a → wpAny P md ops Q' (f + m) listed a w
  | 0, listed, g, a, w, hw, h => by rw [Nat.zero_add]; exact hL _ _ _ _ hw h
  | f + 1, listed, g, a, w, hw, h => by
    rw [show f + 1 + m = (f + m) + 1 by omega]
    exact ⟨fun h0 => absurd h0 h.1, fun i hi => wpOp_of_StP hw (fun g' a' w' hw' h' => wpAny_of_headP hL f _ g' a' w' hw' h') (h.2 i hi).2⟩

/-- A reader that is ready may go first. -/
theorem wpAnyP_first {n i : Nat} {oi : Oper} {v : Value} {L : Array Bool → List Value → Act → Prop} (hi : ops[i]? = some oi) (hwi : ws i = false) (hsel : ∀ (j : Nat) (o : Oper) cs b, ops[j]? = some o → o.op ≠ .select cs b)
    (hin : i < n) (hwait : ∀ listed, HeadInv md ops n listed → listed.getD i true = false → ∀ j ∈ Region.ready md ops listed, j < n)
    (hdone : ∀ listed g a, L listed g a → ∀ j ∈ Region.ready md ops listed, n ≤ j) :
    ∀ (f : Nat) (listed : Array Bool) (g : List Value) (a : Act), HeadInv md ops n listed →
      (∀ j oj, ops[j]? = some oj → j ≠ i → listed.getD j true = false → (∀ e ∈ oj.after, Region.binds md e = true → e.on ≠ i) → oi.apart ops oj = true) →
      i ∈ Region.ready md ops listed → YieldsP P ops RL oi v g a →
      wpAnyP P md ops RL ws n L f (listed.setIfInBounds i true) g (a.put oi.dst v) → wpAnyP P md ops RL ws n L (f + 1) listed g a := by
  intro f
  induction f with
  | zero =>
    intro listed g a inv _ hr hy H
    have hun := (mem_ready.1 hr).1
    refine ⟨fun h => (by rw [h] at hr; cases hr), fun j hj => ?_⟩
    have hjn : j < n := hwait listed inv hun j hj
    refine ⟨hjn, ?_⟩
    by_cases hji : j = i
    · subst hji; exact hy.stP hi hwi H
    · have := hdone _ _ _ H j (ready_mono hj hji)
      omega
  | succ f ih =>
    intro listed g a inv hfree hr hy H
    have hun := (mem_ready.1 hr).1
    refine ⟨fun h => (by rw [h] at hr; cases hr), fun j hj => ?_⟩
    have hjn : j < n := hwait listed inv hun j hj
    refine ⟨hjn, ?_⟩
    by_cases hji : j = i
    · subst hji; exact hy.stP hi hwi H
    · have h1 := (H.2 j (ready_mono hj hji)).2
      obtain ⟨hjun, oj, hoj, hall⟩ := mem_ready.1 hj
      have hnot : ∀ e ∈ oj.after, Region.binds md e = true → e.on ≠ i := fun e he hb heq => by
        have h1 := hall e he hb
        rw [heq, getD_both hun] at h1
        cases h1
      have hap := hfree j oj hoj hji hjun hnot
      obtain ⟨a1, a2, a3⟩ := Oper.apart_spec hap
      have hsi := fun cs b => hsel i oi cs b hi
      have hsj := fun cs b => hsel j oj cs b hoj
      have hfree' : ∀ k ok, ops[k]? = some ok → k ≠ i → (listed.setIfInBounds j true).getD k true = false →
          (∀ e ∈ ok.after, Region.binds md e = true → e.on ≠ i) → oi.apart ops ok = true := fun k ok hk hki hun hno => by
        refine hfree k ok hk hki ?_ hno
        by_cases hjk : j = k
        · subst hjk; exact hjun
        · rw [getD_set_ne true hjk] at hun; exact hun
      have keep : ∀ u g', YieldsP P ops RL oi v g' a → YieldsP P ops RL oi v g' (a.put oj.dst u) := fun u g' hy =>
        hy.of_same (execOp_put oi hsi a oj.dst u a3) (wanted_put oi a oj.dst u a3)
      have hwj : Region.wanted oj (yielded ops (a.put oi.dst v).tmps) = Region.wanted oj (yielded ops a.tmps) := wanted_put oj a oi.dst v a1
      have hej : execOp (a.put oi.dst v).eval oj = execOp a.eval oj := execOp_put oj hsj a oi.dst v a1
      have next : ∀ u g', YieldsP P ops RL oi v g' a → wpAnyP P md ops RL ws n L f ((listed.setIfInBounds i true).setIfInBounds j true) g' ((a.put oi.dst v).put oj.dst u) → wpAnyP P md ops RL ws n L (f + 1) (listed.setIfInBounds j true) g' (a.put oj.dst u) := fun u g' hy' h3 => by
        refine ih (listed.setIfInBounds j true) g' (a.put oj.dst u) (inv.set hj hjn) hfree' (ready_mono hr (Ne.symm hji)) (keep u g' hy') ?_
        rw [Array.setIfInBounds_comm _ _ hji, ← Act.put_comm a v u a2]
        exact h3
      cases hwsj : ws j with
      | false =>
        obtain ⟨u, hu, hK⟩ := yieldsP_of_stP hoj hwsj h1
        have hu' : YieldsP P ops RL oj u g a := hu.of_same hej.symm hwj.symm
        exact hu'.stP hoj hwsj (next u g hy hK)
      | true =>
        unfold StP at h1 ⊢
        simp only [hoj, hwsj] at h1 ⊢
        rw [if_pos trivial] at h1 ⊢
        obtain ⟨b1, b2, b3⟩ := h1
        refine ⟨by rw [← hwj]; exact b1, ?_, fun u hu => next u _ hy.later (b3 u hu)⟩
        unfold WOk at b2 ⊢
        rw [hej] at b2
        exact b2

/-- The order of one's own: each stands where it is ready; a writer where nothing else is. -/
def ordB (md : Region.Mode) (ops : Array Oper) (ws : Nat → Bool) (m n : Nat) : List Nat → Array Bool → Bool
  | [], listed => Region.seqB md ops m n listed
  | i :: l, listed => decide (i < n) && (if ws i = true then decide (Region.ready md ops listed = [i]) else (Region.ready md ops listed).contains i && Region.free md ops listed i) && ordB md ops ws m n l (listed.setIfInBounds i true)

def wpP (P : Program) (ops : Array Oper) (RL : List Value → World → Prop) (ws : Nat → Bool) (Lq : List Value → Act → Prop) : List Nat → List Value → Act → Prop
  | [], g, a => Lq g a
  | i :: l, g, a => StP P ops RL ws i g (wpP P ops RL ws Lq l) a

theorem wpAnyP_ord {n m : Nat} {Lq : List Value → Act → Prop} (hsel : Region.noSelect ops = true)
    (hwait : ∀ i, i < n → ∀ listed, HeadInv md ops n listed → listed.getD i true = false → ∀ j ∈ Region.ready md ops listed, j < n) :
    ∀ (l : List Nat) (listed : Array Bool) (g : List Value) (a : Act), HeadInv md ops n listed → ordB md ops ws m n l listed = true → wpP P ops RL ws Lq l g a →
      wpAnyP P md ops RL ws n (fun listed' g' a' => Region.seqB md ops m n listed' = true ∧ Lq g' a') l.length listed g a
  | [], listed, g, a, _, hB, h => ⟨by simpa [ordB] using hB, h⟩
  | i :: l, listed, g, a, inv, hB, h => by
    simp only [ordB, Bool.and_eq_true, decide_eq_true_eq] at hB
    obtain ⟨⟨hin, hB1⟩, hB2⟩ := hB
    cases hw : ws i with
    | true =>
      rw [hw, if_pos rfl] at hB1
      have hr : Region.ready md ops listed = [i] := by simpa using hB1
      refine ⟨by rw [hr]; exact List.cons_ne_nil _ _, fun j hj => ?_⟩
      rw [hr] at hj
      have hji : j = i := by simpa using hj
      subst hji
      exact ⟨hin, StP.mono (fun g' a' h' => wpAnyP_ord hsel hwait l _ g' a' (inv.set (by rw [hr]; simp) hin) hB2 h') h⟩
    | false =>
      rw [hw, if_neg (by decide)] at hB1
      simp only [Bool.and_eq_true] at hB1
      have hr : i ∈ Region.ready md ops listed := by simpa using hB1.1
      obtain ⟨_, oi, hoi, _⟩ := mem_ready.1 hr
      obtain ⟨v, hy, hK⟩ := yieldsP_of_stP hoi hw h
      exact wpAnyP_first hoi hw (Region.noSelect_spec hsel) hin (hwait i hin) (fun listed' g' a' hL => seqB_ready hL.1) l.length listed g a inv (Region.free_spec hoi hB1.2) hr hy
        (wpAnyP_ord hsel hwait l _ g _ (inv.set hr hin) hB2 hK)

def phB (ops : Array Oper) (ws : Nat → Bool) (n : Nat) (ord : List Nat) : Bool :=
  Region.noSelect ops && decide (n < ops.size) && Region.sinkB .any ops n && Region.chainB .any ops n && decide (ord.length = n) && ordB .any ops ws (ops.size - n) n ord (Array.replicate ops.size false)

/-- The region: ord over its first n operations, the others behind them, one after the other. -/
theorem wp_region_P {id : Nat} {Q : Exit → Act → World → Prop} {a : Act} {w : World} {l : List Oper} (RL : List Value → World → Prop) (ws : Nat → Bool) (n : Nat) (ord : List Nat) (hm : P.follows .mixedOrders = true) (hB : phB l.toArray ws n ord = true)
    (hR : RL [] { w with drawn := w.drawn + 1 })
    (h : wpP P l.toArray RL ws (fun g a' => ∀ w', RL g w' → wpList P l.toArray Q (l.drop n) a' w') ord [] a) : (Code.region id l.toArray true).wp P Q a w := by
  simp only [phB, Bool.and_eq_true, decide_eq_true_eq] at hB
  obtain ⟨⟨⟨⟨⟨hsel, hn⟩, hs⟩, hc⟩, hlen⟩, hord⟩ := hB
  have hn' : n < l.length := by simpa using hn
  have hdl : (l.drop n).length = l.toArray.size - n := by simp
  have inv0 : HeadInv .any l.toArray n (Array.replicate l.toArray.size false) :=
    ⟨by simp, fun j oj _ hl => (by rw [getD_replicate_false] at hl; cases hl), fun t _ ht => getD_in (by simpa using ht) (getD_replicate_false _ _)⟩
  have hwait : ∀ i, i < n → ∀ listed, HeadInv .any l.toArray n listed → listed.getD i true = false → ∀ j ∈ Region.ready .any l.toArray listed, j < n := fun i hi listed inv hun j hj => by
    rcases Nat.lt_or_ge j n with h' | h'
    · exact h'
    · exact absurd hj (tail_waits hs hc hn inv _ i rfl hi hun j h')
  have H := wpAnyP_ord (md := .any) (m := l.toArray.size - n) hsel hwait ord _ [] a inv0 hord h
  have H2 := wpAny_of_headP (m := l.toArray.size - n) (Q' := Q) (fun listed' g' a' w' hw' hL => by
    have hseq := hL.1
    rw [← hdl] at hseq ⊢
    exact wpAny_of_seq (l.drop n) n listed' a' w' (fun j => by simp) hseq (hL.2 w' hw')) _ _ [] a _ hR H
  have e : ord.length + (l.toArray.size - n) = l.toArray.size := by omega
  rw [e] at H2
  exact wp_region_any hm H2

/-! ### steps -/
variable {Lq : List Value → Act → Prop} {i : Nat} {rest : List Nat} {g : List Value} {a : Act} {o : Oper}
theorem wpP_nil (h : Lq g a) : wpP P ops RL ws Lq [] g a := h
/-- One operation that only computes or reads. -/
theorem wpP_val {v : Value} (hi : ops[i]? = some o) (hw : ws i = false) (hg : o.guard = none) (hv : ∀ t w, RL (g ++ t) w → (execOp a.eval o).run P w = .ok (.value v) w) (h : wpP P ops RL ws Lq rest g (a.put o.dst v)) : wpP P ops RL ws Lq (i :: rest) g a :=
  YieldsP.stP hi hw (.inl ⟨by simp [Region.wanted, hg], fun t w hR => by rw [hv t w hR]; exact ⟨rfl, hR⟩⟩) h
/-- One call that leaves all that lies. -/
theorem wpP_call {v : Value} {f : FuncId} {args : Array Value} (hmono : ∀ g w w', RL g w → Below w.heap.size w w' → RL g w') (hi : ops[i]? = some o) (hw : ws i = false) (hg : o.guard = none) (hv : ∀ t w, RL (g ++ t) w → (execOp a.eval o).run P w = .ok (.enter f args) w)
    (hc : ∀ t w, RL (g ++ t) w → Pur P f args w v) (h : wpP P ops RL ws Lq rest g (a.put o.dst v)) : wpP P ops RL ws Lq (i :: rest) g a :=
  YieldsP.stP hi hw (.inl ⟨by simp [Region.wanted, hg], fun t w hR => by
    rw [hv t w hR]
    exact (hc t w hR).out.mono fun e w'' ⟨he, hb⟩ => ⟨v, he, rfl, hmono _ _ _ hR hb⟩⟩) h
/-- A writer that calls nothing. -/
theorem wpP_write (hi : ops[i]? = some o) (hw : ws i = true) (hg : o.guard = none) (hv : ∀ w, RL g w → ∃ u w', (execOp a.eval o).run P w = .ok (.value u) w' ∧ RL (g ++ [u]) w')
    (h : ∀ u w, RL (g ++ [u]) w → wpP P ops RL ws Lq rest (g ++ [u]) (a.put o.dst u)) : wpP P ops RL ws Lq (i :: rest) g a := by
  show StP P ops RL ws i g _ a
  unfold StP
  simp only [hi, hw]
  rw [if_pos trivial]
  refine ⟨by simp [Region.wanted, hg], fun w hR => ?_, fun u ⟨w, hR⟩ => h u w hR⟩
  obtain ⟨u, w', e, hR'⟩ := hv w hR
  rw [e]; exact hR'
/-- A writer that is a call. -/
theorem wpP_write_call {f : FuncId} {args : Array Value} (hi : ops[i]? = some o) (hw : ws i = true) (hg : o.guard = none) (hv : ∀ w, RL g w → (execOp a.eval o).run P w = .ok (.enter f args) w)
    (hc : ∀ w, RL g w → Calls P f args w fun e w' => ∃ u, e = .returned u ∧ RL (g ++ [u]) w')
    (h : ∀ u w, RL (g ++ [u]) w → wpP P ops RL ws Lq rest (g ++ [u]) (a.put o.dst u)) : wpP P ops RL ws Lq (i :: rest) g a := by
  show StP P ops RL ws i g _ a
  unfold StP
  simp only [hi, hw]
  rw [if_pos trivial]
  refine ⟨by simp [Region.wanted, hg], fun w hR => ?_, fun u ⟨w, hR⟩ => h u w hR⟩
  rw [hv w hR]; exact hc w hR
end
end Ph
end Go.Proofs.YtckbckdaffdjmaaDoor
