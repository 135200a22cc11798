/- A region that draws its order and makes ONE new block (an 'alloc' that waits for nothing, with the stores into it behind all the rest): all other operations as in Reg, each of which leaves what lies as it lies. The alloc floats: it may come anywhere ahead of the tail. -/
import Derived.Test.YtbgfoobcpacfeaaWb
import Derived.StillTail
namespace Go.Proofs.Ytbgfoobcpacfeaa
open Go.RowKit
namespace Fl
section
variable {P : Program} {ops : Array Oper} {md : Region.Mode} {R : World → Prop}

def Gives (P : Program) (R : World → Prop) (v : Value) (w0 : World) : Result Next → Prop
  | .ok (.value u) w' => u = v ∧ R w' ∧ Below w0.heap.size w0 w'
  | .ok .skip w' => v = undef ∧ R w' ∧ Below w0.heap.size w0 w'
  | .ok (.enter f args) w' => Calls P f args w' (fun e w'' => e = .returned v ∧ R w'' ∧ Below w0.heap.size w0 w'')
  | _ => False

/-- The operation comes to v at every world of R. -/
def OpR (P : Program) (R : World → Prop) (o : Oper) (a : Act) (v : Value) : Prop := ∀ w, R w → Gives P R v w ((execOp a.eval o).run P w)

def wpR (P : Program) (ops : Array Oper) (R : World → Prop) (Q : Act → Prop) : List Oper → Act → Prop
  | [], a => Q a
  | o :: rest, a => if Region.wanted o (yielded ops a.tmps) = true then ∃ v, OpR P R o a v ∧ wpR P ops R Q rest (a.put o.dst v) else wpR P ops R Q rest (a.put o.dst undef)

def StR (P : Program) (ops : Array Oper) (R : World → Prop) (i : Nat) (K : Act → Prop) (a : Act) : Prop :=
  match ops[i]? with
  | none => K a
  | some o => if Region.wanted o (yielded ops a.tmps) = true then ∃ v, OpR P R o a v ∧ K (a.put o.dst v) else K (a.put o.dst undef)

theorem StR.mono {i : Nat} {a : Act} {K K' : Act → Prop} (h : ∀ a, K a → K' a) (hh : StR P ops R i K a) : StR P ops R i K' a := by
  unfold StR at *
  split
  · exact h _ (by simpa [*] using hh)
  · rename_i o ho
    simp only [ho] at hh
    split
    · rename_i hw; rw [if_pos hw] at hh; obtain ⟨v, h1, h2⟩ := hh; exact ⟨v, h1, h _ h2⟩
    · rename_i hw; rw [if_neg hw] at hh; exact h _ hh

theorem wpOp_of_StR {i : Nat} {a : Act} {w : World} {K : Act → Prop} {K' : Act → World → Prop} {Q' : Exit → Act → World → Prop} (hR : R w) (h : ∀ a w', R w' → Below w.heap.size w w' → K a → K' a w') (hh : StR P ops R i K a) :
    wpOp P ops Q' i K' a w := by
  unfold StR at hh
  unfold wpOp
  split
  · rename_i ho; simp only [ho] at hh; exact h _ _ hR (Below.refl _ _) hh
  · rename_i o ho
    simp only [ho] at hh
    split
    · rename_i hw
      rw [if_pos hw] at hh
      obtain ⟨v, h1, h2⟩ := hh
      refine .inl ?_
      have h3 := h1 w hR
      unfold Oper.wp
      generalize (execOp a.eval o).run P w = r at h3
      cases r with
      | ok n w' =>
        cases n <;> simp only [Gives] at h3 <;> simp only [Oper.upon]
        case value u => obtain ⟨rfl, h4, h5⟩ := h3; exact h _ _ h4 h5 h2
        case skip => obtain ⟨rfl, h4, h5⟩ := h3; exact h _ _ h4 h5 h2
        case enter f args => exact Calls.mono h3 fun e w'' ⟨he, hw, hw5⟩ => by subst he; exact h _ _ hw hw5 h2
      | halt x w' => simp only [Gives] at h3
    · rename_i hw
      rw [if_neg hw] at hh
      exact h _ _ hR (Below.refl _ _) hh

def YieldsR (P : Program) (ops : Array Oper) (R : World → Prop) (o : Oper) (v : Value) (a : Act) : Prop :=
  (Region.wanted o (yielded ops a.tmps) = true ∧ OpR P R o a v) ∨ (Region.wanted o (yielded ops a.tmps) = false ∧ v = undef)

theorem YieldsR.stR {i : Nat} {o : Oper} {v : Value} {a : Act} (hi : ops[i]? = some o) (hy : YieldsR P ops R o v a) {K : Act → Prop} (h : K (a.put o.dst v)) : StR P ops R i K a := by
  unfold StR
  simp only [hi]
  rcases hy with ⟨hw, hv⟩ | ⟨hw, rfl⟩
  · rw [if_pos hw]; exact ⟨v, hv, h⟩
  · rw [if_neg (by rw [hw]; decide)]; exact h

theorem YieldsR.of_same {o : Oper} {v : Value} {a a' : Act} (hy : YieldsR P ops R o v a) (he : execOp a'.eval o = execOp a.eval o)
    (hw : Region.wanted o (yielded ops a'.tmps) = Region.wanted o (yielded ops a.tmps)) : YieldsR P ops R o v a' := by
  unfold YieldsR OpR at *
  rw [he, hw]
  exact hy

theorem yieldsR_of_stR {i : Nat} {o : Oper} {a : Act} {K : Act → Prop} (hi : ops[i]? = some o) (h : StR P ops R i K a) : ∃ v, YieldsR P ops R o v a ∧ K (a.put o.dst v) := by
  unfold StR at h
  simp only [hi] at h
  by_cases hw : Region.wanted o (yielded ops a.tmps) = true
  · rw [if_pos hw] at h
    obtain ⟨v, h1, h2⟩ := h
    exact ⟨v, .inl ⟨hw, h1⟩, h2⟩
  · rw [if_neg hw] at h
    exact ⟨undef, .inr ⟨by simpa using hw, rfl⟩, h⟩

theorem stR_put {j : Nat} {oi oj : Oper} {v : Value} (hj : ops[j]? = some oj) (hap : oi.apart ops oj = true)
    (hsi : ∀ cs b, oi.op ≠ .select cs b) (hsj : ∀ cs b, oj.op ≠ .select cs b) {K : Act → Prop} {a : Act}
    (hy : YieldsR P ops R oi v a) (h : StR P ops R j K (a.put oi.dst v)) :
    StR P ops R j (fun a' => YieldsR P ops R oi v a' ∧ K (a'.put oi.dst v)) a := by
  obtain ⟨h1, h2, h3⟩ := Oper.apart_spec hap
  have keep : ∀ (a : Act), YieldsR P ops R oi v a → ∀ u, YieldsR P ops R oi v (a.put oj.dst u) := fun a hy u =>
    hy.of_same (execOp_put oi hsi a oj.dst u h3) (wanted_put oi a oj.dst u h3)
  obtain ⟨u, hu, hK⟩ := yieldsR_of_stR hj h
  have hu' : YieldsR P ops R oj u a := hu.of_same (execOp_put oj hsj a oi.dst v h1).symm (wanted_put oj a oi.dst v h1).symm
  exact hu'.stR hj ⟨keep a hy u, by rw [← Act.put_comm a v u h2]; exact hK⟩

/-! ### the head: operations below n, in any order; then L. -/

def wpAnyLR (P : Program) (md : Region.Mode) (ops : Array Oper) (R : World → Prop) (n : Nat) (L : Array Bool → Act → Prop) : Nat → Array Bool → Act → Prop
  | 0, listed, a => L listed a
  | f + 1, listed, a =>
    Region.ready md ops listed ≠ [] ∧ ∀ i ∈ Region.ready md ops listed, i < n ∧ StR P ops R i (wpAnyLR P md ops R n L f (listed.setIfInBounds i true)) a

theorem wpAnyLR_first {n i : Nat} {oi : Oper} {v : Value} {L : Array Bool → Act → Prop} (hi : ops[i]? = some oi) (hsel : ∀ (j : Nat) (o : Oper) cs b, ops[j]? = some o → o.op ≠ .select cs b)
    (hin : i < n) (hwait : ∀ listed, HeadInv md ops n listed → listed.getD i true = false → ∀ j ∈ Region.ready md ops listed, j < n)
    (hdone : ∀ listed a, L listed a → ∀ j ∈ Region.ready md ops listed, n ≤ j) :
    ∀ (f : Nat) (listed : Array Bool) (a : Act), HeadInv md ops n listed →
      (∀ j oj, ops[j]? = some oj → j ≠ i → listed.getD j true = false → (∀ e ∈ oj.after, Region.binds md e = true → e.on ≠ i) → oi.apart ops oj = true) →
      i ∈ Region.ready md ops listed → YieldsR P ops R oi v a →
      wpAnyLR P md ops R n L f (listed.setIfInBounds i true) (a.put oi.dst v) → wpAnyLR P md ops R n L (f + 1) listed a := by
  intro f
  induction f with
  | zero =>
    intro listed a inv _ hr hy H
    have hun := (mem_ready.1 hr).1
    refine ⟨fun h => (by rw [h] at hr; cases hr), fun j hj => ?_⟩
    have hjn : j < n := hwait listed inv hun j hj
    refine ⟨hjn, ?_⟩
    by_cases hji : j = i
    · subst hji; exact hy.stR hi H
    · have := hdone _ _ H j (ready_mono hj hji)
      omega
  | succ f ih =>
    intro listed a inv hfree hr hy H
    have hun := (mem_ready.1 hr).1
    refine ⟨fun h => (by rw [h] at hr; cases hr), fun j hj => ?_⟩
    have hjn : j < n := hwait listed inv hun j hj
    refine ⟨hjn, ?_⟩
    by_cases hji : j = i
    · subst hji; exact hy.stR hi H
    · have h1 := (H.2 j (ready_mono hj hji)).2
      obtain ⟨hjun, oj, hoj, hall⟩ := mem_ready.1 hj
      have hnot : ∀ e ∈ oj.after, Region.binds md e = true → e.on ≠ i := fun e he hb heq => by
        have h1 := hall e he hb
        rw [heq, getD_both hun] at h1
        cases h1
      have h2 := stR_put hoj (hfree j oj hoj hji hjun hnot) (fun cs b => hsel i oi cs b hi) (fun cs b => hsel j oj cs b hoj) hy h1
      have hfree' : ∀ k ok, ops[k]? = some ok → k ≠ i → (listed.setIfInBounds j true).getD k true = false →
          (∀ e ∈ ok.after, Region.binds md e = true → e.on ≠ i) → oi.apart ops ok = true := fun k ok hk hki hun hno => by
        refine hfree k ok hk hki ?_ hno
        by_cases hjk : j = k
        · subst hjk; exact hjun
        · rw [getD_set_ne true hjk] at hun; exact hun
      refine StR.mono (fun a' h3 => ih (listed.setIfInBounds j true) a' (inv.set hj hjn) hfree' (ready_mono hr (Ne.symm hji)) h3.1 ?_) h2
      rw [Array.setIfInBounds_comm _ _ hji]
      exact h3.2


def lexHeadF (md : Region.Mode) (ops : Array Oper) (g n : Nat) : Nat → Nat → Array Bool → Bool
  | 0, _, listed => Region.seqB md ops g n listed
  | f + 1, k, listed => (Region.ready md ops listed).contains k && Region.free md ops listed k && lexHeadF md ops g n f (k + 1) (listed.setIfInBounds k true)

theorem wpAnyLR_lexF {n g : Nat} {Lq : Act → Prop} (hsel : Region.noSelect ops = true)
    (hwait : ∀ i, i < n → ∀ listed, HeadInv md ops n listed → listed.getD i true = false → ∀ j ∈ Region.ready md ops listed, j < n) :
    ∀ (l : List Oper) (k : Nat) (listed : Array Bool) (a : Act), (∀ j, j < l.length → l[j]? = ops[k + j]?) → k + l.length ≤ n → HeadInv md ops n listed →
    lexHeadF md ops g n l.length k listed = true → wpR P ops R Lq l a →
    wpAnyLR P md ops R n (fun listed' a' => Region.seqB md ops g n listed' = true ∧ Lq a') l.length listed a
  | [], k, listed, a, _, hk, _, hB, h => ⟨by simpa [lexHeadF] using hB, h⟩
  | o :: l, k, listed, a, hl, hk, inv, hB, h => by
    have h0 : ops[k]? = some o := by simpa using (hl 0 (by simp)).symm
    simp only [List.length_cons, lexHeadF, Bool.and_eq_true] at hB
    obtain ⟨⟨hr, hf⟩, hB'⟩ := hB
    have hkn : k < n := by simp only [List.length_cons] at hk; omega
    have hr' : k ∈ Region.ready md ops listed := by simpa using hr
    have hst : StR P ops R k (wpR P ops R Lq l) a := by unfold StR; simp only [h0]; exact h
    obtain ⟨v, hy, hK⟩ := yieldsR_of_stR h0 hst
    exact wpAnyLR_first h0 (Region.noSelect_spec hsel) hkn (hwait k hkn) (fun listed' a' hL => seqB_ready hL.1) l.length listed a inv (Region.free_spec h0 hf) hr' hy
      (wpAnyLR_lexF hsel hwait l (k + 1) _ _ (fun j hj => by have := hl (j + 1) (by simp; omega); simpa [Nat.add_assoc, Nat.add_comm 1 j] using this) (by simp only [List.length_cons] at hk; omega) (inv.set hr' hkn) hB' hK)

abbrev ptr (b : Nat) : Value := .pointer (some ⟨b, 0, none⟩)

section float
variable {n g k B : Nat} {s : Tmp} {T : TypeId} {c0 : Array Value} {ok : Oper} {L : Array Bool → Act → Prop} {Q' : Exit → Act → World → Prop}

theorem wpAny_float2 (hk : ops[k]? = some ok) (hkd : ok.dst = some s) (hsel : ∀ (j : Nat) (o : Oper) cs b, ops[j]? = some o → o.op ≠ .select cs b)
    (hap : ∀ i oi, i < n → i ≠ k → ops[i]? = some oi → ok.apart ops oi = true)
    (hL : ∀ listed a b w, R w → L listed a → w.heap[b]? = some (.cells c0 T (0, 0)) → B ≤ b → wpAny P md ops Q' g listed (a.put (some s) (ptr b)) w) :
    ∀ (f : Nat) (listed : Array Bool) (a : Act) (w : World) (b : Nat), R w → w.heap[b]? = some (.cells c0 T (0, 0)) → B ≤ b → listed.getD k true = true → wpAnyLR P md ops R n L f listed a →
      wpAny P md ops Q' (f + g) listed (a.put (some s) (ptr b)) w
  | 0, listed, a, w, b, hw, hb, hB, _, h => by rw [Nat.zero_add]; exact hL _ _ _ _ hw h hb hB
  | f + 1, listed, a, w, b, hw, hb, hB, hkl, h => by
    rw [show f + 1 + g = (f + g) + 1 by omega]
    refine ⟨fun h0 => absurd h0 h.1, fun i hi => ?_⟩
    obtain ⟨hin, hst⟩ := h.2 i hi
    obtain ⟨hun, oi, hoi, _⟩ := mem_ready.1 hi
    have hik : i ≠ k := fun e => by subst e; rw [hkl] at hun; cases hun
    obtain ⟨h1, h2, h3⟩ := Oper.apart_spec (hap i oi hin hik hoi)
    obtain ⟨v, hy, hK⟩ := yieldsR_of_stR hoi hst
    have hy' : YieldsR P ops R oi v (a.put (some s) (ptr b)) :=
      hy.of_same (execOp_put oi (fun cs b => hsel i oi cs b hoi) a (some s) _ (fun d hd => h1 d (hkd.trans hd))) (wanted_put oi a (some s) _ (fun d hd => h1 d (hkd.trans hd)))
    have hc : (a.put (some s) (ptr b)).put oi.dst v = (a.put oi.dst v).put (some s) (ptr b) := Act.put_comm a _ _ (fun d hd => h2 d (hkd.trans hd))
    have hst' : StR P ops R i (fun x => ∃ a', x = a'.put (some s) (ptr b) ∧ wpAnyLR P md ops R n L f (listed.setIfInBounds i true) a') (a.put (some s) (ptr b)) :=
      hy'.stR hoi ⟨_, hc, hK⟩
    refine wpOp_of_StR hw (fun x w' hw' hbl hx => ?_) hst'
    obtain ⟨a', rfl, hx⟩ := hx
    have hlt : b < w.heap.size := by
      rcases Nat.lt_or_ge b w.heap.size with h' | h'
      · exact h'
      · rw [Array.getElem?_eq_none h'] at hb; cases hb
    exact wpAny_float2 hk hkd hsel hap hL f _ a' w' b hw' ((hbl.block _ hlt).trans hb) hB (by rw [getD_set_ne true hik]; exact hkl) hx

theorem wpAny_float (hk : ops[k]? = some ok) (hkd : ok.dst = some s) (hkn : k < n) (hka : ok.after = #[]) (hkg : ok.guard = none) (hsel : ∀ (j : Nat) (o : Oper) cs b, ops[j]? = some o → o.op ≠ .select cs b)
    (hap : ∀ i oi, i < n → i ≠ k → ops[i]? = some oi → ok.apart ops oi = true)
    (hx : ∀ (a : Act) (w : World), (execOp a.eval ok).run P w = .ok (.value (ptr w.heap.size)) (w.alloc (.cells c0 T)))
    (hRB : ∀ w, R w → B ≤ w.heap.size) (hRa : ∀ w, R w → R (w.alloc (.cells c0 T)))
    (hwait : ∀ i, i < n → ∀ listed, HeadInv md ops n listed → listed.getD i true = false → ∀ j ∈ Region.ready md ops listed, j < n)
    (hdone : ∀ listed a, L listed a → ∀ j ∈ Region.ready md ops listed, n ≤ j)
    (hL : ∀ listed a b w, R w → L listed a → w.heap[b]? = some (.cells c0 T (0, 0)) → B ≤ b → wpAny P md ops Q' g listed (a.put (some s) (ptr b)) w) :
    ∀ (f : Nat) (listed : Array Bool) (a : Act) (w : World), R w → listed.getD k true = false → HeadInv md ops n listed → wpAnyLR P md ops R n L f (listed.setIfInBounds k true) a →
      wpAny P md ops Q' (f + 1 + g) listed a w := by
  intro f
  induction f with
  | zero =>
    intro listed a w hw hkl inv h
    have hkr : k ∈ Region.ready md ops listed := mem_ready.2 ⟨hkl, ok, hk, fun e he => by rw [hka] at he; simp at he⟩
    rw [show 0 + 1 + g = g + 1 by omega]
    refine ⟨fun h0 => (by rw [h0] at hkr; cases hkr), fun i hi => ?_⟩
    by_cases hik : i = k
    · subst hik
      unfold wpOp
      simp only [hk]
      rw [if_pos (by simp [Region.wanted, hkg])]
      refine .inl ?_
      unfold Oper.wp
      rw [hx]
      simp only [Oper.upon, hkd]
      exact hL _ _ _ _ (hRa _ hw) h (heap_new _ _ _ rfl) (hRB _ hw)
    · have := hdone _ _ h i (ready_mono hi hik)
      have := hwait k hkn listed inv hkl i hi
      omega
  | succ f ih =>
    intro listed a w hw hkl inv h
    have hkr : k ∈ Region.ready md ops listed := mem_ready.2 ⟨hkl, ok, hk, fun e he => by rw [hka] at he; simp at he⟩
    have hks : k < listed.size := by rw [inv.size]; exact (Array.getElem?_eq_some_iff.1 hk).1
    rw [show f + 1 + 1 + g = (f + 1 + g) + 1 by omega]
    refine ⟨fun h0 => (by rw [h0] at hkr; cases hkr), fun i hi => ?_⟩
    by_cases hik : i = k
    · subst hik
      unfold wpOp
      simp only [hk]
      rw [if_pos (by simp [Region.wanted, hkg])]
      refine .inl ?_
      unfold Oper.wp
      rw [hx]
      simp only [Oper.upon, hkd]
      exact wpAny_float2 hk hkd hsel hap hL (f + 1) _ a _ _ (hRa _ hw) (heap_new _ _ _ rfl) (hRB _ hw) (by simp [hks]) h
    · have hin := hwait k hkn listed inv hkl i hi
      refine wpOp_of_StR hw (fun a' w' hw' _ hx' => ?_) (h.2 i (ready_mono hi hik)).2
      refine ih (listed.setIfInBounds i true) a' w' hw' (by rw [getD_set_ne true hik]; exact hkl) (inv.set hi hin) ?_
      rw [Array.setIfInBounds_comm _ _ hik]
      exact hx'
end float

def floatB (ops : Array Oper) (k : Nat) : Bool :=
  Region.noSelect ops && decide (k + 1 < ops.size) && Region.sinkB .any ops (k + 1) && Region.chainB .any ops (k + 1) &&
  (match ops[k]? with | some ok => ok.after.isEmpty && ok.guard.isNone && (List.range (k + 1)).all (fun i => i == k || match ops[i]? with | some oi => ok.apart ops oi | none => true) | none => false) &&
  lexHeadF .any ops (ops.size - (k + 1)) (k + 1) k 0 ((Array.replicate ops.size false).setIfInBounds k true)

theorem wp_region_float {id : Nat} {Q : Exit → Act → World → Prop} {a : Act} {w W : World} {l : List Oper} {B : Nat} (k : Nat) {ok : Oper} {s : Tmp} {T : TypeId} {c0 : Array Value} (hm : P.follows .mixedOrders = true) (hB : floatB l.toArray k = true)
    (hk : l.toArray[k]? = some ok) (hkd : ok.dst = some s) (hx : ∀ (a : Act) (w : World), (execOp a.eval ok).run P w = .ok (.value (ptr w.heap.size)) (w.alloc (.cells c0 T)))
    (hBW : B ≤ W.heap.size) (hR : Below B W { w with drawn := w.drawn + 1 })
    (h : wpR P l.toArray (Below B W) (fun a' => ∀ b w', Below B W w' → B ≤ b → b < w'.heap.size → wpList P l.toArray Q (l.drop (k + 1)) (a'.put (some s) (ptr b)) (w'.wb b c0 T)) (l.take k) a) : (Code.region id l.toArray true).wp P Q a w := by
  simp only [floatB, hk, Bool.and_eq_true, decide_eq_true_eq] at hB
  obtain ⟨⟨⟨⟨⟨hsel, hn⟩, hs⟩, hc⟩, ⟨hka, hkg⟩, hap⟩, hlex⟩ := hB
  have hn' : k + 1 < l.length := by simpa using hn
  have htl : (l.take k).length = k := by simp; omega
  have hdl : (l.drop (k + 1)).length = l.toArray.size - (k + 1) := by simp
  have hka' : ok.after = #[] := by simpa using hka
  have inv0 : HeadInv .any l.toArray (k + 1) (Array.replicate l.toArray.size false) :=
    ⟨by simp, fun j oj _ hl => (by rw [getD_replicate_false] at hl; cases hl), fun t _ ht => getD_in (by simpa using ht) (getD_replicate_false _ _)⟩
  have hkr : k ∈ Region.ready .any l.toArray (Array.replicate l.toArray.size false) := mem_ready.2 ⟨getD_in (by simp; omega) (getD_replicate_false _ _), ok, hk, fun e he => by rw [hka'] at he; simp at he⟩
  have inv1 := inv0.set hkr (by omega)
  have hwait : ∀ i, i < k + 1 → ∀ listed, HeadInv .any l.toArray (k + 1) listed → listed.getD i true = false → ∀ j ∈ Region.ready .any l.toArray listed, j < k + 1 := fun i hi listed inv hun j hj => by
    rcases Nat.lt_or_ge j (k + 1) with h' | h'
    · exact h'
    · exact absurd hj (tail_waits hs hc hn inv _ i rfl hi hun j h')
  have H := wpAnyLR_lexF (md := .any) (n := k + 1) (g := l.toArray.size - (k + 1)) (R := Below B W) hsel hwait (l.take k) 0 _ a (fun j hj => by
    have hj' : j < k := by rw [htl] at hj; exact hj
    simp [hj']) (by rw [htl]; omega) inv1 (by rw [htl]; exact hlex) h
  rw [htl] at H
  have H2 := wpAny_float (g := l.toArray.size - (k + 1)) (Q' := Q) (B := B) (T := T) (c0 := c0) hk hkd (by omega) hka' (by simpa using hkg) (Region.noSelect_spec hsel) (fun i oi hi hik hoi => by
      have h1 := List.all_eq_true.1 hap i (List.mem_range.2 hi)
      simpa [hik, hoi] using h1) hx (fun w hw => Nat.le_trans hBW hw.size) (fun w hw => hw.alloc (Nat.le_trans hBW hw.size) _) hwait (fun listed' a' hL => seqB_ready hL.1)
      (fun listed' a' b w' hw' hL hb hBb => by
        have hseq := hL.1
        rw [← hdl] at hseq ⊢
        have hlt : b < w'.heap.size := by
          rcases Nat.lt_or_ge b w'.heap.size with h' | h'
          · exact h'
          · rw [Array.getElem?_eq_none h'] at hb; cases hb
        have h3 := hL.2 b w' hw' hBb hlt
        rw [wb_self hb] at h3
        exact wpAny_of_seq (l.drop (k + 1)) (k + 1) listed' _ w' (fun j => by simp) hseq h3) k _ a _ hR (getD_in (by simp; omega) (getD_replicate_false _ _)) inv0 H
  have e : k + 1 + (l.toArray.size - (k + 1)) = l.toArray.size := by omega
  rw [e] at H2
  exact wp_region_any hm H2

theorem wpR_nil {Q : Act → Prop} {a : Act} (h : Q a) : wpR P ops R Q [] a := h
theorem wpR_plain {Q : Act → Prop} {a : Act} {o : Oper} {rest : List Oper} (v : Value) (hg : o.guard = none) (hv : OpR P R o a v) (h : wpR P ops R Q rest (a.put o.dst v)) : wpR P ops R Q (o :: rest) a := by
  unfold wpR
  rw [if_pos (by simp [Region.wanted, hg])]
  exact ⟨v, hv, h⟩
/-- One operation that only computes or reads. -/
theorem wpR_val {Q : Act → Prop} {a : Act} {o : Oper} {rest : List Oper} {v : Value} (hg : o.guard = none) (hv : ∀ w, R w → (execOp a.eval o).run P w = .ok (.value v) w) (h : wpR P ops R Q rest (a.put o.dst v)) : wpR P ops R Q (o :: rest) a :=
  wpR_plain v hg (fun w hw => by rw [hv w hw]; exact ⟨rfl, hw, Below.refl _ _⟩) h
/-- One call, by its contract. -/
theorem wpR_call {Q : Act → Prop} {a : Act} {o : Oper} {rest : List Oper} {v : Value} {f : FuncId} {args : Array Value} {B : Nat} {W : World} (hg : o.guard = none) (hv : ∀ w, Below B W w → (execOp a.eval o).run P w = .ok (.enter f args) w) (hBW : B ≤ W.heap.size)
    (hc : ∀ w, Below B W w → Calls P f args w (fun e w'' => e = .returned v ∧ Below w.heap.size w w'')) (h : wpR P ops (Below B W) Q rest (a.put o.dst v)) : wpR P ops (Below B W) Q (o :: rest) a :=
  wpR_plain v hg (fun w hw => by rw [hv w hw]; exact (hc w hw).mono fun e w'' ⟨he, hb⟩ => ⟨he, hw.trans (hb.mono (Nat.le_trans hBW hw.size)), hb⟩) h
end
end Fl
end Go.Proofs.Ytbgfoobcpacfeaa
