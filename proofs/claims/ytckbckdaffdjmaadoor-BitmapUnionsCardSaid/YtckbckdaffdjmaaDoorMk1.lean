/- Walks and plain laws of the packets and frames, joined from: Base, Reg, Wb, RegP, RegP2, Kt, Bu, BmPop. -/
import Derived.Test.YtckbckdaffdjmaaDoorRows
import Derived.WalkKit
import Derived.ProofKit
import Derived.OpenShut
import Derived.ShutString
import Derived.ChangeOld
import Derived.Below
import Derived.Carry
import Derived.SizedLaws
import Derived.Deep.Slices
import Derived.Lib.Hide
import Derived.StillTail
import Derived.LoopN
import Derived.IntWalk
import Derived.Outline
import Derived.RegionTactic
import Derived.Maps.AppendAt
import Derived.Laws.OwnMore
import Derived.WalkSpells
import Derived.Lib.LazyBuf
/- A base for the rows of this seat: a law's row follows from its walk (the call returns true and changes nothing that was there); the arguments are read as flat lists of cells. -/
namespace Go.Proofs.YtckbckdaffdjmaaDoor
open Go.ChangeShapes Go.WideShapes Go.ChangeAt Go.RowKit

section
variable {H : Type} {enc : TypeId × Value → H} {P : Program}

/-- All arguments read behind the call as they read before. -/
theorem trodAll_below (hl : laidOutB P = true) {W W' : World} (hb : Below W.heap.size W W') :
    ∀ (ts : List TypeId) (vs : List Value) (ds : List (DataW H)) (ps : List MemPlace), (ts.all fun t => P.readableRec t && decide (t < P.types.size)) = true →
      DataW.TrodAll enc P W 0 (fun _ => true) true ts vs ds ps → (∀ x ∈ ps, x.block < W.heap.size) →
      DataW.TrodAll enc P W' 0 (fun b => decide (b < W.heap.size)) true ts vs ds ps
  | [], [], [], ps, _, h, _ => h
  | t :: ts, v :: vs, d :: ds, ps, hr, h, hlt => by
    obtain ⟨p, q, h1, h2, rfl⟩ := h
    simp only [List.all_cons, Bool.and_eq_true, decide_eq_true_eq] at hr
    refine ⟨p, q, Below.trod hl hr.1.1 hr.1.2 h1 hb (fun x hx => hlt x (by simp [hx])), ?_, rfl⟩
    exact trodAll_below hl hb ts vs ds q (by simpa using hr.2) h2 (fun x hx => hlt x (by simp [hx]))
  | [], _ :: _, _, _, _, h, _ => h.elim
  | [], [], _ :: _, _, _, h, _ => h.elim
  | _ :: _, [], _, _, _, h, _ => h.elim
  | _ :: _, _ :: _, [], _, _, h, _ => h.elim

theorem trodAll_length {W : World} {base : Nat} {sp : Nat → Bool} {held : Bool} : ∀ (ts : List TypeId) (vs : List Value) (ds : List (DataW H)) (ps : List MemPlace),
    DataW.TrodAll enc P W base sp held ts vs ds ps → ds.length = ts.length
  | [], [], [], _, _ => rfl
  | t :: ts, v :: vs, d :: ds, ps, h => by
    obtain ⟨p, q, _, h2, _⟩ := h
    simp [trodAll_length ts vs ds q h2]
  | [], _ :: _, _, _, h => h.elim
  | [], [], _ :: _, _, h => h.elim
  | _ :: _, [], _, _, h => h.elim
  | _ :: _, _ :: _, [], _, h => h.elim

/-- A law's post, of one walk: it returned true, and below nothing has turned. -/
theorem law_post (hl : laidOutB P = true) {f : Func} {s : ChangeSpec} {W W' : World} {args : Array Value} {ds : List (DataW H)} {before : List MemPlace} {tb : TypeId}
    (hv : s.vars = []) (hres : f.resultTypes = #[tb]) (htb : P.underlying tb = some .bool)
    (hrd : (f.params.toList.all fun t => P.readableRec t && decide (t < P.types.size)) = true)
    (hfn : ∀ l : List (DataW H), l.length = f.params.toList.length → s.fn H l = { results := [.lit (.bool true)], args := l })
    (hW : DataW.Whole enc P f.params.toList s.vars false W args.toList ds [] before) (hb : Below W.heap.size W W') :
    s.post enc P f false true false false W args (.bool true) W' := by
  have hW' := hW
  obtain ⟨p, q, hA, hV, rfl, hfz, hnd⟩ := hW
  have hlen := trodAll_length _ _ _ _ hA
  have e := hfn ds hlen
  have hq : q = [] := by rw [hv] at hV; exact hV
  subst hq
  refine ⟨ds, [], _, [], p, [], hW', ?_, ?_, ?_, hb.frame _, fun h => by cases h⟩
  · rw [List.append_nil, e, hres]
    exact trodAll_mk1 (shut_bool htb true)
  · rw [List.append_nil, e]
    exact trodAll_below hl hb _ _ _ _ hrd hA (fun x hx => by simpa using hW'.lt x (by simp [hx]))
  · rw [List.append_nil, e, hv]
    exact rfl
end

theorem seat_own : ownKnob Tryd.prog.godebug = none := by kernel_rfl
theorem seat_laid : laidOutB Tryd.prog = true := by kernel_rfl

/-- What a flat cell of an argument is. -/
inductive Leaf where
  | int (k : IntKind)
  | bool
  | str
  | other (t : TypeId)

def fieldsLie (P : Program) : List Field → Nat → Bool
  | [], _ => true
  | f :: r, n => f.offset == n && fieldsLie P r (n + P.cellsOf f.type)
def fieldsSum (P : Program) : List Field → Nat
  | [] => 0
  | f :: r => P.cellsOf f.type + fieldsSum P r

mutual
def leaves (P : Program) : Nat → TypeId → Option (List Leaf)
  | 0, _ => none
  | n + 1, t =>
    match P.underlying t with
    | some .bool => some [.bool]
    | some (.int k) => some [.int k]
    | some .string => some [.str]
    | some (.struct fs) => if fieldsLie P fs.toList 0 && fieldsSum P fs.toList == P.cellsOf t then leavesAll P n fs.toList else none
    | some (.array m e) => if m * P.cellsOf e == P.cellsOf t then (leaves P n e).map fun l => (List.replicate m l).flatten else none
    | some (.slice _) => some [.other t]
    | some (.pointer _) => some [.other t]
    | _ => none
def leavesAll (P : Program) : Nat → List Field → Option (List Leaf)
  | 0, _ => none
  | _ + 1, [] => some []
  | n + 1, f :: r =>
    match leaves P n f.type, leavesAll P n r with
    | some a, some b => some (a ++ b)
    | _, _ => none
end

section
variable {H : Type} {enc : TypeId × Value → H} {P : Program} {w : World} {base : Nat} {spare : Nat → Bool} {held : Bool}

/-- A cell is what its leaf says. -/
def LeafOk (enc : TypeId × Value → H) (P : Program) (w : World) (base : Nat) (spare : Nat → Bool) (held : Bool) : Leaf → Value → Prop
  | .int k, v => ∃ n, v = .int k n ∧ (Lit.int k n).wf = true
  | .bool, v => ∃ b, v = .bool b
  | .str, v => ∃ s, v = .string s ∧ s.size ≤ maxLen
  | .other t, v => ∃ fuel x, DataW.trod enc P w base spare held fuel t [v] = some x

inductive LeavesOk (enc : TypeId × Value → H) (P : Program) (w : World) (base : Nat) (spare : Nat → Bool) (held : Bool) : List Leaf → List Value → Prop
  | nil : LeavesOk enc P w base spare held [] []
  | cons {l : Leaf} {v : Value} {ls : List Leaf} {vs : List Value} : LeafOk enc P w base spare held l v → LeavesOk enc P w base spare held ls vs → LeavesOk enc P w base spare held (l :: ls) (v :: vs)

theorem LeavesOk.append {a b : List Leaf} {u v : List Value} (h : LeavesOk enc P w base spare held a u) (k : LeavesOk enc P w base spare held b v) : LeavesOk enc P w base spare held (a ++ b) (u ++ v) := by
  induction h with
  | nil => exact k
  | cons h1 _ ih => exact .cons h1 ih

theorem LeavesOk.uncons {l : Leaf} {ls : List Leaf} {cs : List Value} (h : LeavesOk enc P w base spare held (l :: ls) cs) : ∃ v vs, cs = v :: vs ∧ LeafOk enc P w base spare held l v ∧ LeavesOk enc P w base spare held ls vs := by
  cases h with
  | cons a b => exact ⟨_, _, rfl, a, b⟩
theorem LeavesOk.unnil {cs : List Value} (h : LeavesOk enc P w base spare held [] cs) : cs = [] := by cases h; rfl
theorem LeavesOk.int {k : IntKind} {ls : List Leaf} {cs : List Value} (h : LeavesOk enc P w base spare held (.int k :: ls) cs) : ∃ n vs, cs = .int k n :: vs ∧ (Lit.int k n).wf = true ∧ LeavesOk enc P w base spare held ls vs := by
  obtain ⟨v, vs, rfl, ⟨n, rfl, hn⟩, r⟩ := h.uncons
  exact ⟨n, vs, rfl, hn, r⟩
theorem LeavesOk.bool {ls : List Leaf} {cs : List Value} (h : LeavesOk enc P w base spare held (.bool :: ls) cs) : ∃ b vs, cs = .bool b :: vs ∧ LeavesOk enc P w base spare held ls vs := by
  obtain ⟨v, vs, rfl, ⟨n, rfl⟩, r⟩ := h.uncons
  exact ⟨n, vs, rfl, r⟩
theorem LeavesOk.other {t : TypeId} {ls : List Leaf} {cs : List Value} (h : LeavesOk enc P w base spare held (.other t :: ls) cs) : ∃ v vs, cs = v :: vs ∧ (∃ fuel x, DataW.trod enc P w base spare held fuel t [v] = some x) ∧ LeavesOk enc P w base spare held ls vs := by
  obtain ⟨v, vs, rfl, hv, r⟩ := h.uncons
  exact ⟨v, vs, rfl, hv, r⟩

theorem trod_length {fuel : Nat} {t : TypeId} {cs : List Value} {x : DataW H × List MemPlace} (h : DataW.trod enc P w base spare held fuel t cs = some x) :
    (∃ v, cs = [v]) ∨ (∃ fs, P.underlying t = some (.struct fs)) ∨ (∃ m e, P.underlying t = some (.array m e)) := by
  cases fuel with
  | zero => simp [DataW.trod] at h
  | succ n =>
    unfold DataW.trod at h
    split at h <;> first
      | exact .inl ⟨_, rfl⟩
      | (rename_i hs; exact .inr (.inl ⟨_, hs⟩))
      | (rename_i hs; exact .inr (.inr ⟨_, _, hs⟩))
      | cases h

mutual
theorem leaves_ok : ∀ (n : Nat) (t : TypeId) (ls : List Leaf) (fuel : Nat) (cs : List Value) (x : DataW H × List MemPlace), leaves P n t = some ls →
    DataW.trod enc P w base spare held fuel t cs = some x → LeavesOk enc P w base spare held ls cs
  | 0, _, _, _, _, _, h, _ => by simp [leaves] at h
  | n + 1, t, ls, fuel, cs, x, h, ht => by
    unfold leaves at h
    split at h
    · rename_i hu
      cases h
      obtain ⟨b, rfl, _⟩ := DataW.trod_bool hu ht
      exact .cons ⟨b, rfl⟩ .nil
    · rename_i k hu
      cases h
      obtain ⟨m, rfl, _, hw⟩ := DataW.trod_int hu ht
      exact .cons ⟨m, rfl, hw⟩ .nil
    · rename_i hu
      cases h
      obtain ⟨s, rfl, _, hw⟩ := DataW.trod_string hu ht
      exact .cons ⟨s, rfl, hw⟩ .nil
    · rename_i fs hu
      split at h
      · rename_i hc
        simp only [Bool.and_eq_true, beq_iff_eq] at hc
        obtain ⟨xs, m, rfl, rfl, hl, hxl, hf⟩ := DataW.trod_struct hu ht
        refine leavesAll_ok n fs.toList ls m cs 0 h hc.1 ?_ ?_
        · rw [Nat.zero_add, hc.2]; exact hl
        · intro i f hif
          have hi : fs[i]? = some f := by simpa using hif
          have hlt : i < xs.length := by
            have := (Array.getElem?_eq_some_iff.1 hi).1
            omega
          exact ⟨xs[i], by rw [hf i f hi]; exact List.getElem?_eq_getElem hlt⟩
      · cases h
    · rename_i m e hu
      split at h
      · rename_i hc
        simp only [beq_iff_eq] at hc
        cases hle : leaves P n e with
        | none => rw [hle] at h; cases h
        | some l =>
          rw [hle] at h
          simp only [Option.map_some, Option.some.injEq] at h
          subst h
          obtain ⟨xs, fu, rfl, hx1, hlen, hn3, hel⟩ := DataW.trod_array hu ht
          have key : ∀ k, k ≤ m → LeavesOk enc P w base spare held (List.replicate k l).flatten (cs.take (k * P.cellsOf e)) := by
            intro k
            induction k with
            | zero => intro _; simp; exact .nil
            | succ k ih =>
              intro hk
              have h1 := ih (by omega)
              have hk' : k < xs.length := by omega
              have h2 := hel k (by omega)
              rw [List.getElem?_eq_getElem hk'] at h2
              have h3 := leaves_ok n e l fu _ _ hle h2
              have e1 : (List.replicate (k + 1) l).flatten = (List.replicate k l).flatten ++ l := by
                rw [List.replicate_succ', List.flatten_append]; simp
              have e2 : cs.take ((k + 1) * P.cellsOf e) = cs.take (k * P.cellsOf e) ++ (cs.drop (k * P.cellsOf e)).take (P.cellsOf e) := by
                rw [Nat.succ_mul, List.take_add]
              rw [e1, e2]
              exact h1.append h3
          have hm := key m (Nat.le_refl _)
          rw [hc, ← hlen, List.take_length] at hm
          exact hm
      · cases h
    · rename_i e hu
      cases h
      rcases trod_length ht with ⟨v, rfl⟩ | ⟨fs, h2⟩ | ⟨m, e', h2⟩
      · exact .cons ⟨fuel, x, ht⟩ .nil
      · rw [hu] at h2; cases h2
      · rw [hu] at h2; cases h2
    · rename_i e hu
      cases h
      rcases trod_length ht with ⟨v, rfl⟩ | ⟨fs, h2⟩ | ⟨m, e', h2⟩
      · exact .cons ⟨fuel, x, ht⟩ .nil
      · rw [hu] at h2; cases h2
      · rw [hu] at h2; cases h2
    · cases h
theorem leavesAll_ok : ∀ (n : Nat) (fs : List Field) (ls : List Leaf) (fuel : Nat) (cs : List Value) (at_ : Nat), leavesAll P n fs = some ls → fieldsLie P fs at_ = true → cs.length = at_ + fieldsSum P fs →
    (∀ (i : Nat) (f : Field), fs[i]? = some f → ∃ x, DataW.trod enc P w base spare held fuel f.type ((cs.drop f.offset).take (P.cellsOf f.type)) = some x) → LeavesOk enc P w base spare held ls (cs.drop at_)
  | 0, _, _, _, _, _, h, _, _, _ => by simp [leavesAll] at h
  | n + 1, [], ls, fuel, cs, at_, h, _, hs, _ => by
    simp only [leavesAll, Option.some.injEq] at h
    subst h
    rw [List.drop_of_length_le (by simp [fieldsSum] at hs; omega)]
    exact .nil
  | n + 1, f :: r, ls, fuel, cs, at_, h, hlie, hs, hf => by
    simp only [leavesAll] at h
    split at h
    · rename_i a b ha hb
      cases h
      simp only [fieldsLie, Bool.and_eq_true, beq_iff_eq] at hlie
      obtain ⟨x, hx⟩ := hf 0 f rfl
      rw [hlie.1] at hx
      have h1 := leaves_ok n f.type a fuel _ x ha hx
      have h2 := leavesAll_ok n r b fuel cs (at_ + P.cellsOf f.type) hb hlie.2 (by simp [fieldsSum] at hs; omega) (fun i g hg => hf (i + 1) g (by simpa using hg))
      have e : cs.drop at_ = (cs.drop at_).take (P.cellsOf f.type) ++ cs.drop (at_ + P.cellsOf f.type) := by
        rw [← List.drop_drop, List.take_append_drop]
      rw [e]
      exact h1.append h2
    · cases h
end

/-- An argument that is a struct or an array: its cells, leaf by leaf. -/
theorem open_leaves {W : World} {b : Nat} {t : TypeId} {v : Value} {d : DataW H} {ps : List MemPlace} {ls : List Leaf} {n : Nat} (hls : leaves P n t = some ls)
    (hst : (match P.underlying t with | some (.struct _) | some (.array _ _) => true | _ => false) = true)
    (hv : Value.okWide P W .any b t v) (h : DataW.Trod enc P W base spare held t v d ps) : ∃ cs, v = .agg cs.toArray ∧ LeavesOk enc P W base spare held ls cs := by
  obtain ⟨fuel, hf⟩ := h
  unfold Value.okWide at hv
  split at hst
  · rename_i fs hu
    rw [hu] at hv
    obtain ⟨cs, rfl, _, _⟩ := hv
    exact ⟨cs.toList, by simp, leaves_ok n t ls fuel _ _ hls hf⟩
  · rename_i m e hu
    rw [hu] at hv
    obtain ⟨cs, rfl, _, _⟩ := hv
    exact ⟨cs.toList, by simp, leaves_ok n t ls fuel _ _ hls hf⟩
  · cases hst
end
end Go.Proofs.YtckbckdaffdjmaaDoor

/- Regions that draw their order, walked once in the order of the text: every operation comes to one value at every world of a family R and leaves a world of R. Then so does every order. With it a tail that stands behind all the rest. -/
namespace Go.Proofs.YtckbckdaffdjmaaDoor
section
variable {P : Program} {ops : Array Oper} {md : Region.Mode} {R : World → Prop}

def Gives (P : Program) (R : World → Prop) (v : Value) : Result Next → Prop
  | .ok (.value u) w' => u = v ∧ R w'
  | .ok .skip w' => v = undef ∧ R w'
  | .ok (.enter f args) w' => Calls P f args w' (fun e w'' => e = .returned v ∧ R w'')
  | _ => False

theorem gives_value {v u : Value} {w : World} : Gives P R v (.ok (.value u) w) = (u = v ∧ R w) := rfl
theorem gives_skip {v : Value} {w : World} : Gives P R v (.ok .skip w) = (v = undef ∧ R w) := rfl
theorem gives_enter {v : Value} {w : World} {f : FuncId} {args : Array Value} : Gives P R v (.ok (.enter f args) w) = Calls P f args w (fun e w'' => e = .returned v ∧ R w'') := rfl

/-- The operation comes to v at every world of R. -/
def OpR (P : Program) (R : World → Prop) (o : Oper) (a : Act) (v : Value) : Prop := ∀ w, R w → Gives P R v ((execOp a.eval o).run P w)

def wpR (P : Program) (ops : Array Oper) (R : World → Prop) (Q : Act → Prop) : List Oper → Act → Prop
  | [], a => Q a
  | o :: rest, a => if Region.wanted o (yielded ops a.tmps) = true then ∃ v, OpR P R o a v ∧ wpR P ops R Q rest (a.put o.dst v) else wpR P ops R Q rest (a.put o.dst undef)

def StR (P : Program) (ops : Array Oper) (R : World → Prop) (i : Nat) (K : Act → Prop) (a : Act) : Prop :=
  match ops[i]? with
  | none => K a
  | some o => if Region.wanted o (yielded ops a.tmps) = true then ∃ v, OpR P R o a v ∧ K (a.put o.dst v) else K (a.put o.dst undef)

theorem StR.mono {i : Nat} {a : Act} {K K' : Act → Prop} (h : ∀ a, K a → K' a) (hh : StR P ops R i K a) : StR P ops R i K' a := by
  unfold StR at *
  split
  · exact h _ (by simpa [*] using hh)
  · rename_i o ho
    simp only [ho] at hh
    split
    · rename_i hw; rw [if_pos hw] at hh; obtain ⟨v, h1, h2⟩ := hh; exact ⟨v, h1, h _ h2⟩
    · rename_i hw; rw [if_neg hw] at hh; exact h _ hh

theorem wpOp_of_StR {i : Nat} {a : Act} {w : World} {K : Act → Prop} {K' : Act → World → Prop} {Q' : Exit → Act → World → Prop} (hR : R w) (h : ∀ a w, R w → K a → K' a w) (hh : StR P ops R i K a) :
    wpOp P ops Q' i K' a w := by
  unfold StR at hh
  unfold wpOp
  split
  · rename_i ho; simp only [ho] at hh; exact h _ _ hR hh
  · rename_i o ho
    simp only [ho] at hh
    split
    · rename_i hw
      rw [if_pos hw] at hh
      obtain ⟨v, h1, h2⟩ := hh
      refine .inl ?_
      have h3 := h1 w hR
      unfold Oper.wp
      generalize (execOp a.eval o).run P w = r at h3
      cases r with
      | ok n w' =>
        cases n <;> simp only [Gives] at h3 <;> simp only [Oper.upon]
        case value u => obtain ⟨rfl, h4⟩ := h3; exact h _ _ h4 h2
        case skip => obtain ⟨rfl, h4⟩ := h3; exact h _ _ h4 h2
        case enter f args => exact Calls.mono h3 fun e w'' ⟨he, hw⟩ => by subst he; exact h _ _ hw h2
      | halt x w' => simp only [Gives] at h3
    · rename_i hw
      rw [if_neg hw] at hh
      exact h _ _ hR hh

def YieldsR (P : Program) (ops : Array Oper) (R : World → Prop) (o : Oper) (v : Value) (a : Act) : Prop :=
  (Region.wanted o (yielded ops a.tmps) = true ∧ OpR P R o a v) ∨ (Region.wanted o (yielded ops a.tmps) = false ∧ v = undef)

theorem YieldsR.stR {i : Nat} {o : Oper} {v : Value} {a : Act} (hi : ops[i]? = some o) (hy : YieldsR P ops R o v a) {K : Act → Prop} (h : K (a.put o.dst v)) : StR P ops R i K a := by
  unfold StR
  simp only [hi]
  rcases hy with ⟨hw, hv⟩ | ⟨hw, rfl⟩
  · rw [if_pos hw]; exact ⟨v, hv, h⟩
  · rw [if_neg (by rw [hw]; decide)]; exact h

theorem YieldsR.of_same {o : Oper} {v : Value} {a a' : Act} (hy : YieldsR P ops R o v a) (he : execOp a'.eval o = execOp a.eval o)
    (hw : Region.wanted o (yielded ops a'.tmps) = Region.wanted o (yielded ops a.tmps)) : YieldsR P ops R o v a' := by
  unfold YieldsR OpR at *
  rw [he, hw]
  exact hy

theorem yieldsR_of_stR {i : Nat} {o : Oper} {a : Act} {K : Act → Prop} (hi : ops[i]? = some o) (h : StR P ops R i K a) : ∃ v, YieldsR P ops R o v a ∧ K (a.put o.dst v) := by
  unfold StR at h
  simp only [hi] at h
  by_cases hw : Region.wanted o (yielded ops a.tmps) = true
  · rw [if_pos hw] at h
    obtain ⟨v, h1, h2⟩ := h
    exact ⟨v, .inl ⟨hw, h1⟩, h2⟩
  · rw [if_neg hw] at h
    exact ⟨undef, .inr ⟨by simpa using hw, rfl⟩, h⟩

theorem stR_put {j : Nat} {oi oj : Oper} {v : Value} (hj : ops[j]? = some oj) (hap : oi.apart ops oj = true)
    (hsi : ∀ cs b, oi.op ≠ .select cs b) (hsj : ∀ cs b, oj.op ≠ .select cs b) {K : Act → Prop} {a : Act}
    (hy : YieldsR P ops R oi v a) (h : StR P ops R j K (a.put oi.dst v)) :
    StR P ops R j (fun a' => YieldsR P ops R oi v a' ∧ K (a'.put oi.dst v)) a := by
  obtain ⟨h1, h2, h3⟩ := Oper.apart_spec hap
  have keep : ∀ (a : Act), YieldsR P ops R oi v a → ∀ u, YieldsR P ops R oi v (a.put oj.dst u) := fun a hy u =>
    hy.of_same (execOp_put oi hsi a oj.dst u h3) (wanted_put oi a oj.dst u h3)
  obtain ⟨u, hu, hK⟩ := yieldsR_of_stR hj h
  have hu' : YieldsR P ops R oj u a := hu.of_same (execOp_put oj hsj a oi.dst v h1).symm (wanted_put oj a oi.dst v h1).symm
  exact hu'.stR hj ⟨keep a hy u, by rw [← Act.put_comm a v u h2]; exact hK⟩

/-! ### the head: operations below n, in any order; then L. -/

def wpAnyLR (P : Program) (md : Region.Mode) (ops : Array Oper) (R : World → Prop) (n : Nat) (L : Array Bool → Act → Prop) : Nat → Array Bool → Act → Prop
  | 0, listed, a => L listed a
  | f + 1, listed, a =>
    Region.ready md ops listed ≠ [] ∧ ∀ i ∈ Region.ready md ops listed, i < n ∧ StR P ops R i (wpAnyLR P md ops R n L f (listed.setIfInBounds i true)) a

theorem wpAny_of_headR {n g : Nat} {L : Array Bool → Act → Prop} {Q' : Exit → Act → World → Prop} (hL : ∀ listed a w, R w → L listed a → wpAny P md ops Q' g listed a w) :
    ∀ (f : Nat) (listed : Array Bool) (a : Act) (w : World), R w → wpAnyLR P md ops R n L f listed a → wpAny P md ops Q' (f + g) listed a w
  | 0, listed, a, w, hw, h => by rw [Nat.zero_add]; exact hL _ _ _ hw h
  | f + 1, listed, a, w, hw, h => by
    rw [show f + 1 + g = (f + g) + 1 by omega]
    exact ⟨fun h0 => absurd h0 h.1, fun i hi => wpOp_of_StR hw (fun a' w' hw' h' => wpAny_of_headR hL f _ a' w' hw' h') (h.2 i hi).2⟩

theorem wpAnyLR_first {n i : Nat} {oi : Oper} {v : Value} {L : Array Bool → Act → Prop} (hi : ops[i]? = some oi) (hsel : ∀ (j : Nat) (o : Oper) cs b, ops[j]? = some o → o.op ≠ .select cs b)
    (hin : i < n) (hwait : ∀ listed, HeadInv md ops n listed → listed.getD i true = false → ∀ j ∈ Region.ready md ops listed, j < n)
    (hdone : ∀ listed a, L listed a → ∀ j ∈ Region.ready md ops listed, n ≤ j) :
    ∀ (f : Nat) (listed : Array Bool) (a : Act), HeadInv md ops n listed →
      (∀ j oj, ops[j]? = some oj → j ≠ i → listed.getD j true = false → (∀ e ∈ oj.after, Region.binds md e = true → e.on ≠ i) → oi.apart ops oj = true) →
      i ∈ Region.ready md ops listed → YieldsR P ops R oi v a →
      wpAnyLR P md ops R n L f (listed.setIfInBounds i true) (a.put oi.dst v) → wpAnyLR P md ops R n L (f + 1) listed a := by
  intro f
  induction f with
  | zero =>
    intro listed a inv _ hr hy H
    have hun := (mem_ready.1 hr).1
    refine ⟨fun h => (by rw [h] at hr; cases hr), fun j hj => ?_⟩
    have hjn : j < n := hwait listed inv hun j hj
    refine ⟨hjn, ?_⟩
    by_cases hji : j = i
    · subst hji; exact hy.stR hi H
    · have := hdone _ _ H j (ready_mono hj hji)
      omega
  | succ f ih =>
    intro listed a inv hfree hr hy H
    have hun := (mem_ready.1 hr).1
    refine ⟨fun h => (by rw [h] at hr; cases hr), fun j hj => ?_⟩
    have hjn : j < n := hwait listed inv hun j hj
    refine ⟨hjn, ?_⟩
    by_cases hji : j = i
    · subst hji; exact hy.stR hi H
    · have h1 := (H.2 j (ready_mono hj hji)).2
      obtain ⟨hjun, oj, hoj, hall⟩ := mem_ready.1 hj
      have hnot : ∀ e ∈ oj.after, Region.binds md e = true → e.on ≠ i := fun e he hb heq => by
        have h1 := hall e he hb
        rw [heq, getD_both hun] at h1
        cases h1
      have h2 := stR_put hoj (hfree j oj hoj hji hjun hnot) (fun cs b => hsel i oi cs b hi) (fun cs b => hsel j oj cs b hoj) hy h1
      have hfree' : ∀ k ok, ops[k]? = some ok → k ≠ i → (listed.setIfInBounds j true).getD k true = false →
          (∀ e ∈ ok.after, Region.binds md e = true → e.on ≠ i) → oi.apart ops ok = true := fun k ok hk hki hun hno => by
        refine hfree k ok hk hki ?_ hno
        by_cases hjk : j = k
        · subst hjk; exact hjun
        · rw [getD_set_ne true hjk] at hun; exact hun
      refine StR.mono (fun a' h3 => ih (listed.setIfInBounds j true) a' (inv.set hj hjn) hfree' (ready_mono hr (Ne.symm hji)) h3.1 ?_) h2
      rw [Array.setIfInBounds_comm _ _ hji]
      exact h3.2

theorem wpAnyLR_lex {n g : Nat} {Lq : Act → Prop} (hsel : Region.noSelect ops = true)
    (hwait : ∀ i, i < n → ∀ listed, HeadInv md ops n listed → listed.getD i true = false → ∀ j ∈ Region.ready md ops listed, j < n) :
    ∀ (l : List Oper) (k : Nat) (listed : Array Bool) (a : Act), (∀ j, j < l.length → l[j]? = ops[k + j]?) → k + l.length = n → HeadInv md ops n listed →
    Region.lexHead md ops g l.length k listed = true → wpR P ops R Lq l a →
    wpAnyLR P md ops R n (fun listed' a' => Region.seqB md ops g n listed' = true ∧ Lq a') l.length listed a
  | [], k, listed, a, _, hk, _, hB, h => by
    have : k = n := by simpa using hk
    subst this
    exact ⟨by simpa [Region.lexHead] using hB, h⟩
  | o :: l, k, listed, a, hl, hk, inv, hB, h => by
    have h0 : ops[k]? = some o := by simpa using (hl 0 (by simp)).symm
    simp only [List.length_cons, Region.lexHead, Bool.and_eq_true] at hB
    obtain ⟨⟨hr, hf⟩, hB'⟩ := hB
    have hkn : k < n := by simp only [List.length_cons] at hk; omega
    have hr' : k ∈ Region.ready md ops listed := by simpa using hr
    have hst : StR P ops R k (wpR P ops R Lq l) a := by unfold StR; simp only [h0]; exact h
    obtain ⟨v, hy, hK⟩ := yieldsR_of_stR h0 hst
    exact wpAnyLR_first h0 (Region.noSelect_spec hsel) hkn (hwait k hkn) (fun listed' a' hL => seqB_ready hL.1) l.length listed a inv (Region.free_spec h0 hf) hr' hy
      (wpAnyLR_lex hsel hwait l (k + 1) _ _ (fun j hj => by have := hl (j + 1) (by simp; omega); simpa [Nat.add_assoc, Nat.add_comm 1 j] using this) (by simp only [List.length_cons] at hk; omega) (inv.set hr' hkn) hB' hK)

theorem region_R_tail_any {Q : Exit → Act → World → Prop} {a : Act} {w : World} {l : List Oper} (R : World → Prop) (n : Nat) (hB : Region.lexTailB .any l.toArray n = true)
    (hR : R { w with drawn := w.drawn + 1 })
    (h : wpR P l.toArray R (fun a' => ∀ w', R w' → wpList P l.toArray Q (l.drop n) a' w') (l.take n) a) : wpAny P .any l.toArray Q l.toArray.size (Array.replicate l.toArray.size false) a { w with drawn := w.drawn + 1 } := by
  simp only [Region.lexTailB, Bool.and_eq_true, decide_eq_true_eq] at hB
  obtain ⟨⟨⟨⟨hsel, hn⟩, hs⟩, hc⟩, hlex⟩ := hB
  have hn' : n < l.length := by simpa using hn
  have htl : (l.take n).length = n := by simp; omega
  have hdl : (l.drop n).length = l.toArray.size - n := by simp
  have inv0 : HeadInv .any l.toArray n (Array.replicate l.toArray.size false) :=
    ⟨by simp, fun j oj _ hl => (by rw [getD_replicate_false] at hl; cases hl), fun t _ ht => getD_in (by simpa using ht) (getD_replicate_false _ _)⟩
  have hwait : ∀ i, i < n → ∀ listed, HeadInv .any l.toArray n listed → listed.getD i true = false → ∀ j ∈ Region.ready .any l.toArray listed, j < n := fun i hi listed inv hun j hj => by
    rcases Nat.lt_or_ge j n with h' | h'
    · exact h'
    · exact absurd hj (tail_waits hs hc hn inv _ i rfl hi hun j h')
  have H := wpAnyLR_lex (md := .any) (g := l.toArray.size - n) (R := R) hsel hwait (l.take n) 0 _ a (fun j hj => by
    have hj' : j < n := by rw [htl] at hj; exact hj
    simp [hj']) (by simpa using htl) inv0 (by rw [htl]; exact hlex) h
  have e : (l.take n).length + (l.toArray.size - n) = l.toArray.size := by simp; omega
  have H2 := wpAny_of_headR (R := R) (g := l.toArray.size - n) (Q' := Q) (fun listed' a' w' hw' hL => by
    have hseq := hL.1
    rw [← hdl] at hseq ⊢
    exact wpAny_of_seq (l.drop n) n listed' a' w' (fun j => by simp) hseq (hL.2 w' hw')) _ _ a _ hR H
  rw [e] at H2
  exact H2

/-- A region that draws, its first n operations in R, the others behind them, one after the other. -/
theorem wp_region_R_tail {id : Nat} {Q : Exit → Act → World → Prop} {a : Act} {w : World} {l : List Oper} (R : World → Prop) (n : Nat) (hm : P.follows .mixedOrders = true) (hB : Region.lexTailB .any l.toArray n = true)
    (hR : R { w with drawn := w.drawn + 1 })
    (h : wpR P l.toArray R (fun a' => ∀ w', R w' → wpList P l.toArray Q (l.drop n) a' w') (l.take n) a) : (Code.region id l.toArray true).wp P Q a w := wp_region_any hm (region_R_tail_any R n hB hR h)

/-- A region that draws, all of it in R. -/
theorem wp_region_R {id : Nat} {Q : Exit → Act → World → Prop} {a : Act} {w : World} {l : List Oper} (R : World → Prop) (hm : P.follows .mixedOrders = true) (hB : Region.lexB .any l.toArray = true)
    (hR : R { w with drawn := w.drawn + 1 })
    (h : wpR P l.toArray R (fun a' => ∀ w', R w' → Q .normal a' w') l a) : (Code.region id l.toArray true).wp P Q a w := by
  simp only [Region.lexB, Bool.and_eq_true] at hB
  have inv0 : HeadInv .any l.toArray l.length (Array.replicate l.toArray.size false) :=
    ⟨by simp, fun j oj _ hl => (by rw [getD_replicate_false] at hl; cases hl), fun t _ ht => getD_in (by simpa using ht) (getD_replicate_false _ _)⟩
  have hlex : Region.lexHead .any l.toArray 0 l.length 0 (Array.replicate l.toArray.size false) = true := by
    have key : ∀ (f k : Nat) (listed : Array Bool), Region.lexFrom .any l.toArray f k listed = true → Region.lexHead .any l.toArray 0 f k listed = true := by
      intro f
      induction f with
      | zero => intro k listed h; simpa [Region.lexHead, Region.seqB, Region.lexFrom] using h
      | succ f ih =>
        intro k listed h
        simp only [Region.lexFrom, Bool.and_eq_true] at h
        simp only [Region.lexHead, Bool.and_eq_true]
        exact ⟨h.1, ih _ _ h.2⟩
    exact key _ _ _ (by simpa using hB.2)
  have hwait : ∀ i, i < l.length → ∀ listed, HeadInv .any l.toArray l.length listed → listed.getD i true = false → ∀ j ∈ Region.ready .any l.toArray listed, j < l.length := fun i hi listed inv hun j hj => by
    obtain ⟨_, o, ho, _⟩ := mem_ready.1 hj
    simpa using (Array.getElem?_eq_some_iff.1 ho).1
  have H := wpAnyLR_lex (md := .any) (g := 0) (R := R) hB.1 hwait l 0 _ a (fun j hj => by simp) (by simp) inv0 hlex h
  have H2 := wpAny_of_headR (R := R) (g := 0) (Q' := Q) (fun listed' a' w' hw' hL => ⟨by simpa [Region.seqB] using hL.1, hL.2 w' hw'⟩) _ _ a _ hR H
  exact wp_region_any hm H2

theorem wpR_nil {Q : Act → Prop} {a : Act} (h : Q a) : wpR P ops R Q [] a := h
theorem wpR_plain {Q : Act → Prop} {a : Act} {o : Oper} {rest : List Oper} (v : Value) (hg : o.guard = none) (hv : OpR P R o a v) (h : wpR P ops R Q rest (a.put o.dst v)) : wpR P ops R Q (o :: rest) a := by
  unfold wpR
  rw [if_pos (by simp [Region.wanted, hg])]
  exact ⟨v, hv, h⟩
/-- One operation that only computes or reads. -/
theorem wpR_val {Q : Act → Prop} {a : Act} {o : Oper} {rest : List Oper} {v : Value} (hg : o.guard = none) (hv : ∀ w, R w → (execOp a.eval o).run P w = .ok (.value v) w) (h : wpR P ops R Q rest (a.put o.dst v)) : wpR P ops R Q (o :: rest) a :=
  wpR_plain v hg (fun w hw => by rw [hv w hw]; exact ⟨rfl, hw⟩) h
/-- One call, by its contract. -/
theorem wpR_call {Q : Act → Prop} {a : Act} {o : Oper} {rest : List Oper} {v : Value} {f : FuncId} {args : Array Value} (hg : o.guard = none) (hv : ∀ w, R w → (execOp a.eval o).run P w = .ok (.enter f args) w)
    (hc : ∀ w, R w → Calls P f args w (fun e w'' => e = .returned v ∧ R w'')) (h : wpR P ops R Q rest (a.put o.dst v)) : wpR P ops R Q (o :: rest) a :=
  wpR_plain v hg (fun w hw => by rw [hv w hw]; exact hc w hw) h
/-- The same under a guard that is met. -/
theorem wpR_val_want {Q : Act → Prop} {a : Act} {o : Oper} {rest : List Oper} {v : Value} (hg : Region.wanted o (yielded ops a.tmps) = true) (hv : ∀ w, R w → (execOp a.eval o).run P w = .ok (.value v) w) (h : wpR P ops R Q rest (a.put o.dst v)) : wpR P ops R Q (o :: rest) a := by
  unfold wpR
  rw [if_pos hg]
  exact ⟨v, fun w hw => by rw [hv w hw]; exact ⟨rfl, hw⟩, h⟩
theorem wpR_call_want {Q : Act → Prop} {a : Act} {o : Oper} {rest : List Oper} {v : Value} {f : FuncId} {args : Array Value} (hg : Region.wanted o (yielded ops a.tmps) = true) (hv : ∀ w, R w → (execOp a.eval o).run P w = .ok (.enter f args) w)
    (hc : ∀ w, R w → Calls P f args w (fun e w'' => e = .returned v ∧ R w'')) (h : wpR P ops R Q rest (a.put o.dst v)) : wpR P ops R Q (o :: rest) a := by
  unfold wpR
  rw [if_pos hg]
  exact ⟨v, fun w hw => by rw [hv w hw]; exact hc w hw, h⟩
theorem wpR_want {Q : Act → Prop} {a : Act} {o : Oper} {rest : List Oper} (v : Value) (hw : Region.wanted o (yielded ops a.tmps) = true) (hv : OpR P R o a v) (h : wpR P ops R Q rest (a.put o.dst v)) : wpR P ops R Q (o :: rest) a := by
  unfold wpR
  rw [if_pos hw]
  exact ⟨v, hv, h⟩
theorem wpR_pass {Q : Act → Prop} {a : Act} {o : Oper} {rest : List Oper} (hw : Region.wanted o (yielded ops a.tmps) = false) (h : wpR P ops R Q rest (a.put o.dst undef)) : wpR P ops R Q (o :: rest) a := by
  unfold wpR
  rw [if_neg (by rw [hw]; decide)]
  exact h
end
end Go.Proofs.YtckbckdaffdjmaaDoor

/- A world with a block laid over it: how a walk reads and writes blocks of its own behind a call of which 'Below' alone is known. -/
namespace Go.Proofs.YtckbckdaffdjmaaDoor
open Go.RowKit

/-- Block b is just the cells c, of type t. -/
def _root_.Go.World.wb (w : World) (b : Nat) (c : Array Value) (t : TypeId) : World := { w with heap := w.heap.setIfInBounds b (.cells c t (0, 0)) }

section
variable {w : World} {b : Nat} {c : Array Value} {t : TypeId}
theorem wb_self (h : w.heap[b]? = some (.cells c t (0, 0))) : w.wb b c t = w := by
  unfold World.wb
  have e : w.heap.setIfInBounds b (.cells c t (0, 0)) = w.heap := by
    apply Array.ext_getElem?
    intro i
    rw [Array.getElem?_setIfInBounds]
    split
    · rename_i hi
      subst hi
      split
      · exact h.symm
      · rename_i hn; rw [Array.getElem?_eq_none (by omega)]
    · rfl
  rw [e]
@[simp] theorem size_wb : (w.wb b c t).heap.size = w.heap.size := by simp [World.wb]
@[go_sem] theorem size_wb' : (w.wb b c t).heap.size = w.heap.size := by simp [World.wb]
theorem heap_wb (h : b < w.heap.size) : (w.wb b c t).heap[b]? = some (.cells c t (0, 0)) := by simp [World.wb, h]
theorem heap_wb_ne {k : Nat} (h : b ≠ k) : (w.wb b c t).heap[k]? = w.heap[k]? := by simp [World.wb, Array.getElem?_setIfInBounds_ne h]
@[go_sem] theorem cell?_wb_same {o : Nat} (h : b < w.heap.size) : (w.wb b c t).cell? ⟨b, o, none⟩ = c[o]? := by simp [World.cell?, heap_wb h]
@[go_sem] theorem cell?_wb_ne {a : Addr} (h : b ≠ a.block) : (w.wb b c t).cell? a = w.cell? a := by simp [World.cell?, heap_wb_ne h]
@[go_sem] theorem frozen?_wb_same {o : Nat} (h : b < w.heap.size) : (w.wb b c t).frozen? ⟨b, o, none⟩ = false := by simp [World.frozen?, heap_wb h]
@[go_sem] theorem frozen?_wb_ne {a : Addr} (h : b ≠ a.block) : (w.wb b c t).frozen? a = w.frozen? a := by simp [World.frozen?, heap_wb_ne h]
@[go_sem] theorem setCell_wb_same {o : Nat} {v : Value} : (w.wb b c t).setCell ⟨b, o, none⟩ v = w.wb b (c.setIfInBounds o v) t := by
  unfold World.wb World.setCell
  simp only [World.mk.injEq, and_true]
  apply Array.ext_getElem?
  intro i
  simp only [Array.getElem?_modify, Array.getElem?_setIfInBounds]
  by_cases hi : b = i
  · subst hi; simp
  · simp [hi]
@[go_sem] theorem setCell_wb_ne {a : Addr} {v : Value} (h : b ≠ a.block) : (w.wb b c t).setCell a v = (w.setCell a v).wb b c t := by
  unfold World.wb World.setCell
  simp only [World.mk.injEq, and_true]
  apply Array.ext_getElem?
  intro i
  simp only [Array.getElem?_modify, Array.getElem?_setIfInBounds, Array.size_modify]
  by_cases hi : b = i
  · subst hi; simp [Ne.symm h]
  · simp [hi]
@[go_sem] theorem alloc_wb {o : Obj} (h : b < w.heap.size) : (w.wb b c t).alloc o = (w.alloc o).wb b c t := by
  unfold World.wb World.alloc
  simp only [World.mk.injEq, and_true]
  apply Array.ext_getElem?
  intro i
  simp only [Array.getElem?_push, Array.getElem?_setIfInBounds, Array.size_setIfInBounds, Array.size_push]
  by_cases hi : b = i
  · subst hi; simp [Nat.ne_of_lt h, h]; omega
  · simp [hi]
@[go_sem] theorem drew_wb : (w.wb b c t).drew = (w.drew).wb b c t := rfl
@[go_sem] theorem drawn_wb : ({ (w.wb b c t) with drawn := (w.wb b c t).drawn + 1 } : World) = (w.drew).wb b c t := rfl
theorem below_wb {B : Nat} {a : World} (h : Below B a w) (hb : B ≤ b) : Below B a (w.wb b c t) :=
  h.trans ⟨rfl, rfl, rfl, by simp, fun k hk => heap_wb_ne (by omega)⟩

theorem bcell {W w1 : World} (hb : Below W.heap.size W w1) : (∀ b o, b < W.heap.size → w1.cell? ⟨b, o, none⟩ = W.cell? ⟨b, o, none⟩) ∧ (∀ b o, b < W.heap.size → w1.frozen? ⟨b, o, none⟩ = W.frozen? ⟨b, o, none⟩) :=
  ⟨fun b o h => hb.cell (p := ⟨b, o, none⟩) h, fun b o h => hb.frozen (p := ⟨b, o, none⟩) h⟩
theorem bcellB {W w1 : World} {B : Nat} (hb : Below B W w1) : (∀ b o, b < B → w1.cell? ⟨b, o, none⟩ = W.cell? ⟨b, o, none⟩) ∧ (∀ b o, b < B → w1.frozen? ⟨b, o, none⟩ = W.frozen? ⟨b, o, none⟩) :=
  ⟨fun b o h => hb.cell (p := ⟨b, o, none⟩) h, fun b o h => hb.frozen (p := ⟨b, o, none⟩) h⟩
theorem below_alloc1 (w : World) (o1 : Obj) : Below w.heap.size w (w.alloc o1) := (Below.refl _ _).alloc (Nat.le_refl _) o1
theorem below_alloc2 (w : World) (o1 o2 : Obj) : Below w.heap.size w ((w.alloc o1).alloc o2) := (below_alloc1 w o1).alloc (by simp) o2
theorem below_alloc3 (w : World) (o1 o2 o3 : Obj) : Below w.heap.size w (((w.alloc o1).alloc o2).alloc o3) := (below_alloc2 w o1 o2).alloc (by simp; omega) o3

end

theorem heap_new (w : World) (o : Obj) (k : Nat) (h : k = w.heap.size) : (w.alloc o).heap[k]? = some o := by subst h; show (w.heap.push o)[w.heap.size]? = _; simp
theorem heap_old (w : World) (o : Obj) (k : Nat) (h : k < w.heap.size) : (w.alloc o).heap[k]? = w.heap[k]? := by
  show (w.heap.push o)[k]? = _
  rw [Array.getElem?_push, if_neg (by omega)]
theorem heap_drew (w : World) (k : Nat) : w.drew.heap[k]? = w.heap[k]? := rfl

/-! Behind a call that leaves all that was there: the blocks of one's own, laid over the new world. -/
theorem behind_alloc1 {w w1 : World} {c1 : Array Value} {t1 : TypeId} (hb : Below (w.alloc (.cells c1 t1)).heap.size (w.alloc (.cells c1 t1)) w1) :
    ∃ w2, w1 = (w2.wb (w.heap.size) c1 t1) ∧ Below w.heap.size w w2 ∧ w.heap.size < w2.heap.size := by
  have hz := hb.size
  simp only [World.size_alloc] at hz
  have h1 : w1.heap[w.heap.size]? = some (.cells c1 t1 (0, 0)) := (hb.block _ (by first | omega | (simp; done) | (simp; omega))).trans (heap_new _ _ _ (by simp))
  refine ⟨w1, by rw [wb_self h1], ?_, by omega⟩
  exact Below.trans (Below.alloc (Below.refl _ _) (by first | omega | (simp; done) | (simp; omega)) _) (hb.mono (by first | omega | (simp; done) | (simp; omega)))
theorem behind_alloc2 {w w1 : World} {c1 c2 : Array Value} {t1 t2 : TypeId} (hb : Below ((w.alloc (.cells c1 t1)).alloc (.cells c2 t2)).heap.size ((w.alloc (.cells c1 t1)).alloc (.cells c2 t2)) w1) :
    ∃ w2, w1 = ((w2.wb (w.heap.size) c1 t1).wb (w.heap.size + 1) c2 t2) ∧ Below w.heap.size w w2 ∧ w.heap.size < w2.heap.size ∧ w.heap.size + 1 < w2.heap.size := by
  have hz := hb.size
  simp only [World.size_alloc] at hz
  have h1 : w1.heap[w.heap.size]? = some (.cells c1 t1 (0, 0)) := (hb.block _ (by first | omega | (simp; done) | (simp; omega))).trans ((heap_old _ _ _ (by first | omega | (simp; done) | (simp; omega))).trans (heap_new _ _ _ (by simp)))
  have h2 : w1.heap[w.heap.size + 1]? = some (.cells c2 t2 (0, 0)) := (hb.block _ (by first | omega | (simp; done) | (simp; omega))).trans (heap_new _ _ _ (by simp))
  refine ⟨w1, by rw [wb_self h1, wb_self h2], ?_, by omega, by omega⟩
  exact Below.trans (Below.alloc (Below.alloc (Below.refl _ _) (by first | omega | (simp; done) | (simp; omega)) _) (by first | omega | (simp; done) | (simp; omega)) _) (hb.mono (by first | omega | (simp; done) | (simp; omega)))
theorem behind_alloc3 {w w1 : World} {c1 c2 c3 : Array Value} {t1 t2 t3 : TypeId} (hb : Below (((w.alloc (.cells c1 t1)).alloc (.cells c2 t2)).alloc (.cells c3 t3)).heap.size (((w.alloc (.cells c1 t1)).alloc (.cells c2 t2)).alloc (.cells c3 t3)) w1) :
    ∃ w2, w1 = (((w2.wb (w.heap.size) c1 t1).wb (w.heap.size + 1) c2 t2).wb (w.heap.size + 2) c3 t3) ∧ Below w.heap.size w w2 ∧ w.heap.size < w2.heap.size ∧ w.heap.size + 1 < w2.heap.size ∧ w.heap.size + 2 < w2.heap.size := by
  have hz := hb.size
  simp only [World.size_alloc] at hz
  have h1 : w1.heap[w.heap.size]? = some (.cells c1 t1 (0, 0)) := (hb.block _ (by first | omega | (simp; done) | (simp; omega))).trans ((heap_old _ _ _ (by first | omega | (simp; done) | (simp; omega))).trans ((heap_old _ _ _ (by first | omega | (simp; done) | (simp; omega))).trans (heap_new _ _ _ (by simp))))
  have h2 : w1.heap[w.heap.size + 1]? = some (.cells c2 t2 (0, 0)) := (hb.block _ (by first | omega | (simp; done) | (simp; omega))).trans ((heap_old _ _ _ (by first | omega | (simp; done) | (simp; omega))).trans (heap_new _ _ _ (by simp)))
  have h3 : w1.heap[w.heap.size + 2]? = some (.cells c3 t3 (0, 0)) := (hb.block _ (by first | omega | (simp; done) | (simp; omega))).trans (heap_new _ _ _ (by simp))
  refine ⟨w1, by rw [wb_self h1, wb_self h2, wb_self h3], ?_, by omega, by omega, by omega⟩
  exact Below.trans (Below.alloc (Below.alloc (Below.alloc (Below.refl _ _) (by first | omega | (simp; done) | (simp; omega)) _) (by first | omega | (simp; done) | (simp; omega)) _) (by first | omega | (simp; done) | (simp; omega)) _) (hb.mono (by first | omega | (simp; done) | (simp; omega)))
theorem behind_alloc4 {w w1 : World} {c1 c2 c3 c4 : Array Value} {t1 t2 t3 t4 : TypeId} (hb : Below ((((w.alloc (.cells c1 t1)).alloc (.cells c2 t2)).alloc (.cells c3 t3)).alloc (.cells c4 t4)).heap.size ((((w.alloc (.cells c1 t1)).alloc (.cells c2 t2)).alloc (.cells c3 t3)).alloc (.cells c4 t4)) w1) :
    ∃ w2, w1 = ((((w2.wb (w.heap.size) c1 t1).wb (w.heap.size + 1) c2 t2).wb (w.heap.size + 2) c3 t3).wb (w.heap.size + 3) c4 t4) ∧ Below w.heap.size w w2 ∧ w.heap.size < w2.heap.size ∧ w.heap.size + 1 < w2.heap.size ∧ w.heap.size + 2 < w2.heap.size ∧ w.heap.size + 3 < w2.heap.size := by
  have hz := hb.size
  simp only [World.size_alloc] at hz
  have h1 : w1.heap[w.heap.size]? = some (.cells c1 t1 (0, 0)) := (hb.block _ (by first | omega | (simp; done) | (simp; omega))).trans ((heap_old _ _ _ (by first | omega | (simp; done) | (simp; omega))).trans ((heap_old _ _ _ (by first | omega | (simp; done) | (simp; omega))).trans ((heap_old _ _ _ (by first | omega | (simp; done) | (simp; omega))).trans (heap_new _ _ _ (by simp)))))
  have h2 : w1.heap[w.heap.size + 1]? = some (.cells c2 t2 (0, 0)) := (hb.block _ (by first | omega | (simp; done) | (simp; omega))).trans ((heap_old _ _ _ (by first | omega | (simp; done) | (simp; omega))).trans ((heap_old _ _ _ (by first | omega | (simp; done) | (simp; omega))).trans (heap_new _ _ _ (by simp))))
  have h3 : w1.heap[w.heap.size + 2]? = some (.cells c3 t3 (0, 0)) := (hb.block _ (by first | omega | (simp; done) | (simp; omega))).trans ((heap_old _ _ _ (by first | omega | (simp; done) | (simp; omega))).trans (heap_new _ _ _ (by simp)))
  have h4 : w1.heap[w.heap.size + 3]? = some (.cells c4 t4 (0, 0)) := (hb.block _ (by first | omega | (simp; done) | (simp; omega))).trans (heap_new _ _ _ (by simp))
  refine ⟨w1, by rw [wb_self h1, wb_self h2, wb_self h3, wb_self h4], ?_, by omega, by omega, by omega, by omega⟩
  exact Below.trans (Below.alloc (Below.alloc (Below.alloc (Below.alloc (Below.refl _ _) (by first | omega | (simp; done) | (simp; omega)) _) (by first | omega | (simp; done) | (simp; omega)) _) (by first | omega | (simp; done) | (simp; omega)) _) (by first | omega | (simp; done) | (simp; omega)) _) (hb.mono (by first | omega | (simp; done) | (simp; omega)))
theorem behind_alloc5 {w w1 : World} {c1 c2 c3 c4 c5 : Array Value} {t1 t2 t3 t4 t5 : TypeId} (hb : Below (((((w.alloc (.cells c1 t1)).alloc (.cells c2 t2)).alloc (.cells c3 t3)).alloc (.cells c4 t4)).alloc (.cells c5 t5)).heap.size (((((w.alloc (.cells c1 t1)).alloc (.cells c2 t2)).alloc (.cells c3 t3)).alloc (.cells c4 t4)).alloc (.cells c5 t5)) w1) :
    ∃ w2, w1 = (((((w2.wb (w.heap.size) c1 t1).wb (w.heap.size + 1) c2 t2).wb (w.heap.size + 2) c3 t3).wb (w.heap.size + 3) c4 t4).wb (w.heap.size + 4) c5 t5) ∧ Below w.heap.size w w2 ∧ w.heap.size < w2.heap.size ∧ w.heap.size + 1 < w2.heap.size ∧ w.heap.size + 2 < w2.heap.size ∧ w.heap.size + 3 < w2.heap.size ∧ w.heap.size + 4 < w2.heap.size := by
  have hz := hb.size
  simp only [World.size_alloc] at hz
  have h1 : w1.heap[w.heap.size]? = some (.cells c1 t1 (0, 0)) := (hb.block _ (by first | omega | (simp; done) | (simp; omega))).trans ((heap_old _ _ _ (by first | omega | (simp; done) | (simp; omega))).trans ((heap_old _ _ _ (by first | omega | (simp; done) | (simp; omega))).trans ((heap_old _ _ _ (by first | omega | (simp; done) | (simp; omega))).trans ((heap_old _ _ _ (by first | omega | (simp; done) | (simp; omega))).trans (heap_new _ _ _ (by simp))))))
  have h2 : w1.heap[w.heap.size + 1]? = some (.cells c2 t2 (0, 0)) := (hb.block _ (by first | omega | (simp; done) | (simp; omega))).trans ((heap_old _ _ _ (by first | omega | (simp; done) | (simp; omega))).trans ((heap_old _ _ _ (by first | omega | (simp; done) | (simp; omega))).trans ((heap_old _ _ _ (by first | omega | (simp; done) | (simp; omega))).trans (heap_new _ _ _ (by simp)))))
  have h3 : w1.heap[w.heap.size + 2]? = some (.cells c3 t3 (0, 0)) := (hb.block _ (by first | omega | (simp; done) | (simp; omega))).trans ((heap_old _ _ _ (by first | omega | (simp; done) | (simp; omega))).trans ((heap_old _ _ _ (by first | omega | (simp; done) | (simp; omega))).trans (heap_new _ _ _ (by simp))))
  have h4 : w1.heap[w.heap.size + 3]? = some (.cells c4 t4 (0, 0)) := (hb.block _ (by first | omega | (simp; done) | (simp; omega))).trans ((heap_old _ _ _ (by first | omega | (simp; done) | (simp; omega))).trans (heap_new _ _ _ (by simp)))
  have h5 : w1.heap[w.heap.size + 4]? = some (.cells c5 t5 (0, 0)) := (hb.block _ (by first | omega | (simp; done) | (simp; omega))).trans (heap_new _ _ _ (by simp))
  refine ⟨w1, by rw [wb_self h1, wb_self h2, wb_self h3, wb_self h4, wb_self h5], ?_, by omega, by omega, by omega, by omega, by omega⟩
  exact Below.trans (Below.alloc (Below.alloc (Below.alloc (Below.alloc (Below.alloc (Below.refl _ _) (by first | omega | (simp; done) | (simp; omega)) _) (by first | omega | (simp; done) | (simp; omega)) _) (by first | omega | (simp; done) | (simp; omega)) _) (by first | omega | (simp; done) | (simp; omega)) _) (by first | omega | (simp; done) | (simp; omega)) _) (hb.mono (by first | omega | (simp; done) | (simp; omega)))
theorem behind_alloc6 {w w1 : World} {c1 c2 c3 c4 c5 c6 : Array Value} {t1 t2 t3 t4 t5 t6 : TypeId} (hb : Below ((((((w.alloc (.cells c1 t1)).alloc (.cells c2 t2)).alloc (.cells c3 t3)).alloc (.cells c4 t4)).alloc (.cells c5 t5)).alloc (.cells c6 t6)).heap.size ((((((w.alloc (.cells c1 t1)).alloc (.cells c2 t2)).alloc (.cells c3 t3)).alloc (.cells c4 t4)).alloc (.cells c5 t5)).alloc (.cells c6 t6)) w1) :
    ∃ w2, w1 = ((((((w2.wb (w.heap.size) c1 t1).wb (w.heap.size + 1) c2 t2).wb (w.heap.size + 2) c3 t3).wb (w.heap.size + 3) c4 t4).wb (w.heap.size + 4) c5 t5).wb (w.heap.size + 5) c6 t6) ∧ Below w.heap.size w w2 ∧ w.heap.size < w2.heap.size ∧ w.heap.size + 1 < w2.heap.size ∧ w.heap.size + 2 < w2.heap.size ∧ w.heap.size + 3 < w2.heap.size ∧ w.heap.size + 4 < w2.heap.size ∧ w.heap.size + 5 < w2.heap.size := by
  have hz := hb.size
  simp only [World.size_alloc] at hz
  have h1 : w1.heap[w.heap.size]? = some (.cells c1 t1 (0, 0)) := (hb.block _ (by first | omega | (simp; done) | (simp; omega))).trans ((heap_old _ _ _ (by first | omega | (simp; done) | (simp; omega))).trans ((heap_old _ _ _ (by first | omega | (simp; done) | (simp; omega))).trans ((heap_old _ _ _ (by first | omega | (simp; done) | (simp; omega))).trans ((heap_old _ _ _ (by first | omega | (simp; done) | (simp; omega))).trans ((heap_old _ _ _ (by first | omega | (simp; done) | (simp; omega))).trans (heap_new _ _ _ (by simp)))))))
  have h2 : w1.heap[w.heap.size + 1]? = some (.cells c2 t2 (0, 0)) := (hb.block _ (by first | omega | (simp; done) | (simp; omega))).trans ((heap_old _ _ _ (by first | omega | (simp; done) | (simp; omega))).trans ((heap_old _ _ _ (by first | omega | (simp; done) | (simp; omega))).trans ((heap_old _ _ _ (by first | omega | (simp; done) | (simp; omega))).trans ((heap_old _ _ _ (by first | omega | (simp; done) | (simp; omega))).trans (heap_new _ _ _ (by simp))))))
  have h3 : w1.heap[w.heap.size + 2]? = some (.cells c3 t3 (0, 0)) := (hb.block _ (by first | omega | (simp; done) | (simp; omega))).trans ((heap_old _ _ _ (by first | omega | (simp; done) | (simp; omega))).trans ((heap_old _ _ _ (by first | omega | (simp; done) | (simp; omega))).trans ((heap_old _ _ _ (by first | omega | (simp; done) | (simp; omega))).trans (heap_new _ _ _ (by simp)))))
  have h4 : w1.heap[w.heap.size + 3]? = some (.cells c4 t4 (0, 0)) := (hb.block _ (by first | omega | (simp; done) | (simp; omega))).trans ((heap_old _ _ _ (by first | omega | (simp; done) | (simp; omega))).trans ((heap_old _ _ _ (by first | omega | (simp; done) | (simp; omega))).trans (heap_new _ _ _ (by simp))))
  have h5 : w1.heap[w.heap.size + 4]? = some (.cells c5 t5 (0, 0)) := (hb.block _ (by first | omega | (simp; done) | (simp; omega))).trans ((heap_old _ _ _ (by first | omega | (simp; done) | (simp; omega))).trans (heap_new _ _ _ (by simp)))
  have h6 : w1.heap[w.heap.size + 5]? = some (.cells c6 t6 (0, 0)) := (hb.block _ (by first | omega | (simp; done) | (simp; omega))).trans (heap_new _ _ _ (by simp))
  refine ⟨w1, by rw [wb_self h1, wb_self h2, wb_self h3, wb_self h4, wb_self h5, wb_self h6], ?_, by omega, by omega, by omega, by omega, by omega, by omega⟩
  exact Below.trans (Below.alloc (Below.alloc (Below.alloc (Below.alloc (Below.alloc (Below.alloc (Below.refl _ _) (by first | omega | (simp; done) | (simp; omega)) _) (by first | omega | (simp; done) | (simp; omega)) _) (by first | omega | (simp; done) | (simp; omega)) _) (by first | omega | (simp; done) | (simp; omega)) _) (by first | omega | (simp; done) | (simp; omega)) _) (by first | omega | (simp; done) | (simp; omega)) _) (hb.mono (by first | omega | (simp; done) | (simp; omega)))
theorem behind_wb1 {w w1 : World} {B b1 : Nat} {c1 : Array Value} {t1 : TypeId} (hb : Below (w.wb b1 c1 t1).heap.size (w.wb b1 c1 t1) w1) (l1 : b1 < w.heap.size) (e1 : B ≤ b1)  :
    ∃ w2, w1 = (w2.wb b1 c1 t1) ∧ Below B w w2 ∧ w.heap.size ≤ w2.heap.size ∧ b1 < w2.heap.size := by
  have hz := hb.size
  simp only [size_wb] at hz
  have h1 : w1.heap[b1]? = some (.cells c1 t1 (0, 0)) := (hb.block _ (by first | omega | (simp; done) | (simp; omega))).trans (heap_wb (by first | omega | (simp; done) | (simp; omega)))
  refine ⟨w1, by rw [wb_self h1], ?_, hz, by omega⟩
  exact Below.trans (below_wb (Below.refl _ _) e1) (hb.mono (by first | omega | (simp; done) | (simp; omega)))
theorem behind_wb2 {w w1 : World} {B b1 b2 : Nat} {c1 c2 : Array Value} {t1 t2 : TypeId} (hb : Below ((w.wb b1 c1 t1).wb b2 c2 t2).heap.size ((w.wb b1 c1 t1).wb b2 c2 t2) w1) (l1 : b1 < w.heap.size) (l2 : b2 < w.heap.size) (e1 : B ≤ b1) (e2 : B ≤ b2) (n12 : b2 ≠ b1) :
    ∃ w2, w1 = ((w2.wb b1 c1 t1).wb b2 c2 t2) ∧ Below B w w2 ∧ w.heap.size ≤ w2.heap.size ∧ b1 < w2.heap.size ∧ b2 < w2.heap.size := by
  have hz := hb.size
  simp only [size_wb] at hz
  have h1 : w1.heap[b1]? = some (.cells c1 t1 (0, 0)) := (hb.block _ (by first | omega | (simp; done) | (simp; omega))).trans ((heap_wb_ne n12).trans (heap_wb (by first | omega | (simp; done) | (simp; omega))))
  have h2 : w1.heap[b2]? = some (.cells c2 t2 (0, 0)) := (hb.block _ (by first | omega | (simp; done) | (simp; omega))).trans (heap_wb (by first | omega | (simp; done) | (simp; omega)))
  refine ⟨w1, by rw [wb_self h1, wb_self h2], ?_, hz, by omega, by omega⟩
  exact Below.trans (below_wb (below_wb (Below.refl _ _) e1) e2) (hb.mono (by first | omega | (simp; done) | (simp; omega)))
theorem behind_wb3 {w w1 : World} {B b1 b2 b3 : Nat} {c1 c2 c3 : Array Value} {t1 t2 t3 : TypeId} (hb : Below (((w.wb b1 c1 t1).wb b2 c2 t2).wb b3 c3 t3).heap.size (((w.wb b1 c1 t1).wb b2 c2 t2).wb b3 c3 t3) w1) (l1 : b1 < w.heap.size) (l2 : b2 < w.heap.size) (l3 : b3 < w.heap.size) (e1 : B ≤ b1) (e2 : B ≤ b2) (e3 : B ≤ b3) (n12 : b2 ≠ b1) (n13 : b3 ≠ b1) (n23 : b3 ≠ b2) :
    ∃ w2, w1 = (((w2.wb b1 c1 t1).wb b2 c2 t2).wb b3 c3 t3) ∧ Below B w w2 ∧ w.heap.size ≤ w2.heap.size ∧ b1 < w2.heap.size ∧ b2 < w2.heap.size ∧ b3 < w2.heap.size := by
  have hz := hb.size
  simp only [size_wb] at hz
  have h1 : w1.heap[b1]? = some (.cells c1 t1 (0, 0)) := (hb.block _ (by first | omega | (simp; done) | (simp; omega))).trans ((heap_wb_ne n13).trans ((heap_wb_ne n12).trans (heap_wb (by first | omega | (simp; done) | (simp; omega)))))
  have h2 : w1.heap[b2]? = some (.cells c2 t2 (0, 0)) := (hb.block _ (by first | omega | (simp; done) | (simp; omega))).trans ((heap_wb_ne n23).trans (heap_wb (by first | omega | (simp; done) | (simp; omega))))
  have h3 : w1.heap[b3]? = some (.cells c3 t3 (0, 0)) := (hb.block _ (by first | omega | (simp; done) | (simp; omega))).trans (heap_wb (by first | omega | (simp; done) | (simp; omega)))
  refine ⟨w1, by rw [wb_self h1, wb_self h2, wb_self h3], ?_, hz, by omega, by omega, by omega⟩
  exact Below.trans (below_wb (below_wb (below_wb (Below.refl _ _) e1) e2) e3) (hb.mono (by first | omega | (simp; done) | (simp; omega)))
theorem behind_wb4 {w w1 : World} {B b1 b2 b3 b4 : Nat} {c1 c2 c3 c4 : Array Value} {t1 t2 t3 t4 : TypeId} (hb : Below ((((w.wb b1 c1 t1).wb b2 c2 t2).wb b3 c3 t3).wb b4 c4 t4).heap.size ((((w.wb b1 c1 t1).wb b2 c2 t2).wb b3 c3 t3).wb b4 c4 t4) w1) (l1 : b1 < w.heap.size) (l2 : b2 < w.heap.size) (l3 : b3 < w.heap.size) (l4 : b4 < w.heap.size) (e1 : B ≤ b1) (e2 : B ≤ b2) (e3 : B ≤ b3) (e4 : B ≤ b4) (n12 : b2 ≠ b1) (n13 : b3 ≠ b1) (n14 : b4 ≠ b1) (n23 : b3 ≠ b2) (n24 : b4 ≠ b2) (n34 : b4 ≠ b3) :
    ∃ w2, w1 = ((((w2.wb b1 c1 t1).wb b2 c2 t2).wb b3 c3 t3).wb b4 c4 t4) ∧ Below B w w2 ∧ w.heap.size ≤ w2.heap.size ∧ b1 < w2.heap.size ∧ b2 < w2.heap.size ∧ b3 < w2.heap.size ∧ b4 < w2.heap.size := by
  have hz := hb.size
  simp only [size_wb] at hz
  have h1 : w1.heap[b1]? = some (.cells c1 t1 (0, 0)) := (hb.block _ (by first | omega | (simp; done) | (simp; omega))).trans ((heap_wb_ne n14).trans ((heap_wb_ne n13).trans ((heap_wb_ne n12).trans (heap_wb (by first | omega | (simp; done) | (simp; omega))))))
  have h2 : w1.heap[b2]? = some (.cells c2 t2 (0, 0)) := (hb.block _ (by first | omega | (simp; done) | (simp; omega))).trans ((heap_wb_ne n24).trans ((heap_wb_ne n23).trans (heap_wb (by first | omega | (simp; done) | (simp; omega)))))
  have h3 : w1.heap[b3]? = some (.cells c3 t3 (0, 0)) := (hb.block _ (by first | omega | (simp; done) | (simp; omega))).trans ((heap_wb_ne n34).trans (heap_wb (by first | omega | (simp; done) | (simp; omega))))
  have h4 : w1.heap[b4]? = some (.cells c4 t4 (0, 0)) := (hb.block _ (by first | omega | (simp; done) | (simp; omega))).trans (heap_wb (by first | omega | (simp; done) | (simp; omega)))
  refine ⟨w1, by rw [wb_self h1, wb_self h2, wb_self h3, wb_self h4], ?_, hz, by omega, by omega, by omega, by omega⟩
  exact Below.trans (below_wb (below_wb (below_wb (below_wb (Below.refl _ _) e1) e2) e3) e4) (hb.mono (by first | omega | (simp; done) | (simp; omega)))
theorem behind_wb5 {w w1 : World} {B b1 b2 b3 b4 b5 : Nat} {c1 c2 c3 c4 c5 : Array Value} {t1 t2 t3 t4 t5 : TypeId} (hb : Below (((((w.wb b1 c1 t1).wb b2 c2 t2).wb b3 c3 t3).wb b4 c4 t4).wb b5 c5 t5).heap.size (((((w.wb b1 c1 t1).wb b2 c2 t2).wb b3 c3 t3).wb b4 c4 t4).wb b5 c5 t5) w1) (l1 : b1 < w.heap.size) (l2 : b2 < w.heap.size) (l3 : b3 < w.heap.size) (l4 : b4 < w.heap.size) (l5 : b5 < w.heap.size) (e1 : B ≤ b1) (e2 : B ≤ b2) (e3 : B ≤ b3) (e4 : B ≤ b4) (e5 : B ≤ b5) (n12 : b2 ≠ b1) (n13 : b3 ≠ b1) (n14 : b4 ≠ b1) (n15 : b5 ≠ b1) (n23 : b3 ≠ b2) (n24 : b4 ≠ b2) (n25 : b5 ≠ b2) (n34 : b4 ≠ b3) (n35 : b5 ≠ b3) (n45 : b5 ≠ b4) :
    ∃ w2, w1 = (((((w2.wb b1 c1 t1).wb b2 c2 t2).wb b3 c3 t3).wb b4 c4 t4).wb b5 c5 t5) ∧ Below B w w2 ∧ w.heap.size ≤ w2.heap.size ∧ b1 < w2.heap.size ∧ b2 < w2.heap.size ∧ b3 < w2.heap.size ∧ b4 < w2.heap.size ∧ b5 < w2.heap.size := by
  have hz := hb.size
  simp only [size_wb] at hz
  have h1 : w1.heap[b1]? = some (.cells c1 t1 (0, 0)) := (hb.block _ (by first | omega | (simp; done) | (simp; omega))).trans ((heap_wb_ne n15).trans ((heap_wb_ne n14).trans ((heap_wb_ne n13).trans ((heap_wb_ne n12).trans (heap_wb (by first | omega | (simp; done) | (simp; omega)))))))
  have h2 : w1.heap[b2]? = some (.cells c2 t2 (0, 0)) := (hb.block _ (by first | omega | (simp; done) | (simp; omega))).trans ((heap_wb_ne n25).trans ((heap_wb_ne n24).trans ((heap_wb_ne n23).trans (heap_wb (by first | omega | (simp; done) | (simp; omega))))))
  have h3 : w1.heap[b3]? = some (.cells c3 t3 (0, 0)) := (hb.block _ (by first | omega | (simp; done) | (simp; omega))).trans ((heap_wb_ne n35).trans ((heap_wb_ne n34).trans (heap_wb (by first | omega | (simp; done) | (simp; omega)))))
  have h4 : w1.heap[b4]? = some (.cells c4 t4 (0, 0)) := (hb.block _ (by first | omega | (simp; done) | (simp; omega))).trans ((heap_wb_ne n45).trans (heap_wb (by first | omega | (simp; done) | (simp; omega))))
  have h5 : w1.heap[b5]? = some (.cells c5 t5 (0, 0)) := (hb.block _ (by first | omega | (simp; done) | (simp; omega))).trans (heap_wb (by first | omega | (simp; done) | (simp; omega)))
  refine ⟨w1, by rw [wb_self h1, wb_self h2, wb_self h3, wb_self h4, wb_self h5], ?_, hz, by omega, by omega, by omega, by omega, by omega⟩
  exact Below.trans (below_wb (below_wb (below_wb (below_wb (below_wb (Below.refl _ _) e1) e2) e3) e4) e5) (hb.mono (by first | omega | (simp; done) | (simp; omega)))
theorem behind_wb6 {w w1 : World} {B b1 b2 b3 b4 b5 b6 : Nat} {c1 c2 c3 c4 c5 c6 : Array Value} {t1 t2 t3 t4 t5 t6 : TypeId} (hb : Below ((((((w.wb b1 c1 t1).wb b2 c2 t2).wb b3 c3 t3).wb b4 c4 t4).wb b5 c5 t5).wb b6 c6 t6).heap.size ((((((w.wb b1 c1 t1).wb b2 c2 t2).wb b3 c3 t3).wb b4 c4 t4).wb b5 c5 t5).wb b6 c6 t6) w1) (l1 : b1 < w.heap.size) (l2 : b2 < w.heap.size) (l3 : b3 < w.heap.size) (l4 : b4 < w.heap.size) (l5 : b5 < w.heap.size) (l6 : b6 < w.heap.size) (e1 : B ≤ b1) (e2 : B ≤ b2) (e3 : B ≤ b3) (e4 : B ≤ b4) (e5 : B ≤ b5) (e6 : B ≤ b6) (n12 : b2 ≠ b1) (n13 : b3 ≠ b1) (n14 : b4 ≠ b1) (n15 : b5 ≠ b1) (n16 : b6 ≠ b1) (n23 : b3 ≠ b2) (n24 : b4 ≠ b2) (n25 : b5 ≠ b2) (n26 : b6 ≠ b2) (n34 : b4 ≠ b3) (n35 : b5 ≠ b3) (n36 : b6 ≠ b3) (n45 : b5 ≠ b4) (n46 : b6 ≠ b4) (n56 : b6 ≠ b5) :
    ∃ w2, w1 = ((((((w2.wb b1 c1 t1).wb b2 c2 t2).wb b3 c3 t3).wb b4 c4 t4).wb b5 c5 t5).wb b6 c6 t6) ∧ Below B w w2 ∧ w.heap.size ≤ w2.heap.size ∧ b1 < w2.heap.size ∧ b2 < w2.heap.size ∧ b3 < w2.heap.size ∧ b4 < w2.heap.size ∧ b5 < w2.heap.size ∧ b6 < w2.heap.size := by
  have hz := hb.size
  simp only [size_wb] at hz
  have h1 : w1.heap[b1]? = some (.cells c1 t1 (0, 0)) := (hb.block _ (by first | omega | (simp; done) | (simp; omega))).trans ((heap_wb_ne n16).trans ((heap_wb_ne n15).trans ((heap_wb_ne n14).trans ((heap_wb_ne n13).trans ((heap_wb_ne n12).trans (heap_wb (by first | omega | (simp; done) | (simp; omega))))))))
  have h2 : w1.heap[b2]? = some (.cells c2 t2 (0, 0)) := (hb.block _ (by first | omega | (simp; done) | (simp; omega))).trans ((heap_wb_ne n26).trans ((heap_wb_ne n25).trans ((heap_wb_ne n24).trans ((heap_wb_ne n23).trans (heap_wb (by first | omega | (simp; done) | (simp; omega)))))))
  have h3 : w1.heap[b3]? = some (.cells c3 t3 (0, 0)) := (hb.block _ (by first | omega | (simp; done) | (simp; omega))).trans ((heap_wb_ne n36).trans ((heap_wb_ne n35).trans ((heap_wb_ne n34).trans (heap_wb (by first | omega | (simp; done) | (simp; omega))))))
  have h4 : w1.heap[b4]? = some (.cells c4 t4 (0, 0)) := (hb.block _ (by first | omega | (simp; done) | (simp; omega))).trans ((heap_wb_ne n46).trans ((heap_wb_ne n45).trans (heap_wb (by first | omega | (simp; done) | (simp; omega)))))
  have h5 : w1.heap[b5]? = some (.cells c5 t5 (0, 0)) := (hb.block _ (by first | omega | (simp; done) | (simp; omega))).trans ((heap_wb_ne n56).trans (heap_wb (by first | omega | (simp; done) | (simp; omega))))
  have h6 : w1.heap[b6]? = some (.cells c6 t6 (0, 0)) := (hb.block _ (by first | omega | (simp; done) | (simp; omega))).trans (heap_wb (by first | omega | (simp; done) | (simp; omega)))
  refine ⟨w1, by rw [wb_self h1, wb_self h2, wb_self h3, wb_self h4, wb_self h5, wb_self h6], ?_, hz, by omega, by omega, by omega, by omega, by omega, by omega⟩
  exact Below.trans (below_wb (below_wb (below_wb (below_wb (below_wb (below_wb (Below.refl _ _) e1) e2) e3) e4) e5) e6) (hb.mono (by first | omega | (simp; done) | (simp; omega)))
theorem behind_wb7 {w w1 : World} {B b1 b2 b3 b4 b5 b6 b7 : Nat} {c1 c2 c3 c4 c5 c6 c7 : Array Value} {t1 t2 t3 t4 t5 t6 t7 : TypeId} (hb : Below (((((((w.wb b1 c1 t1).wb b2 c2 t2).wb b3 c3 t3).wb b4 c4 t4).wb b5 c5 t5).wb b6 c6 t6).wb b7 c7 t7).heap.size (((((((w.wb b1 c1 t1).wb b2 c2 t2).wb b3 c3 t3).wb b4 c4 t4).wb b5 c5 t5).wb b6 c6 t6).wb b7 c7 t7) w1) (l1 : b1 < w.heap.size) (l2 : b2 < w.heap.size) (l3 : b3 < w.heap.size) (l4 : b4 < w.heap.size) (l5 : b5 < w.heap.size) (l6 : b6 < w.heap.size) (l7 : b7 < w.heap.size) (e1 : B ≤ b1) (e2 : B ≤ b2) (e3 : B ≤ b3) (e4 : B ≤ b4) (e5 : B ≤ b5) (e6 : B ≤ b6) (e7 : B ≤ b7) (n12 : b2 ≠ b1) (n13 : b3 ≠ b1) (n14 : b4 ≠ b1) (n15 : b5 ≠ b1) (n16 : b6 ≠ b1) (n17 : b7 ≠ b1) (n23 : b3 ≠ b2) (n24 : b4 ≠ b2) (n25 : b5 ≠ b2) (n26 : b6 ≠ b2) (n27 : b7 ≠ b2) (n34 : b4 ≠ b3) (n35 : b5 ≠ b3) (n36 : b6 ≠ b3) (n37 : b7 ≠ b3) (n45 : b5 ≠ b4) (n46 : b6 ≠ b4) (n47 : b7 ≠ b4) (n56 : b6 ≠ b5) (n57 : b7 ≠ b5) (n67 : b7 ≠ b6) :
    ∃ w2, w1 = (((((((w2.wb b1 c1 t1).wb b2 c2 t2).wb b3 c3 t3).wb b4 c4 t4).wb b5 c5 t5).wb b6 c6 t6).wb b7 c7 t7) ∧ Below B w w2 ∧ w.heap.size ≤ w2.heap.size ∧ b1 < w2.heap.size ∧ b2 < w2.heap.size ∧ b3 < w2.heap.size ∧ b4 < w2.heap.size ∧ b5 < w2.heap.size ∧ b6 < w2.heap.size ∧ b7 < w2.heap.size := by
  have hz := hb.size
  simp only [size_wb] at hz
  have h1 : w1.heap[b1]? = some (.cells c1 t1 (0, 0)) := (hb.block _ (by first | omega | (simp; done) | (simp; omega))).trans ((heap_wb_ne n17).trans ((heap_wb_ne n16).trans ((heap_wb_ne n15).trans ((heap_wb_ne n14).trans ((heap_wb_ne n13).trans ((heap_wb_ne n12).trans (heap_wb (by first | omega | (simp; done) | (simp; omega)))))))))
  have h2 : w1.heap[b2]? = some (.cells c2 t2 (0, 0)) := (hb.block _ (by first | omega | (simp; done) | (simp; omega))).trans ((heap_wb_ne n27).trans ((heap_wb_ne n26).trans ((heap_wb_ne n25).trans ((heap_wb_ne n24).trans ((heap_wb_ne n23).trans (heap_wb (by first | omega | (simp; done) | (simp; omega))))))))
  have h3 : w1.heap[b3]? = some (.cells c3 t3 (0, 0)) := (hb.block _ (by first | omega | (simp; done) | (simp; omega))).trans ((heap_wb_ne n37).trans ((heap_wb_ne n36).trans ((heap_wb_ne n35).trans ((heap_wb_ne n34).trans (heap_wb (by first | omega | (simp; done) | (simp; omega)))))))
  have h4 : w1.heap[b4]? = some (.cells c4 t4 (0, 0)) := (hb.block _ (by first | omega | (simp; done) | (simp; omega))).trans ((heap_wb_ne n47).trans ((heap_wb_ne n46).trans ((heap_wb_ne n45).trans (heap_wb (by first | omega | (simp; done) | (simp; omega))))))
  have h5 : w1.heap[b5]? = some (.cells c5 t5 (0, 0)) := (hb.block _ (by first | omega | (simp; done) | (simp; omega))).trans ((heap_wb_ne n57).trans ((heap_wb_ne n56).trans (heap_wb (by first | omega | (simp; done) | (simp; omega)))))
  have h6 : w1.heap[b6]? = some (.cells c6 t6 (0, 0)) := (hb.block _ (by first | omega | (simp; done) | (simp; omega))).trans ((heap_wb_ne n67).trans (heap_wb (by first | omega | (simp; done) | (simp; omega))))
  have h7 : w1.heap[b7]? = some (.cells c7 t7 (0, 0)) := (hb.block _ (by first | omega | (simp; done) | (simp; omega))).trans (heap_wb (by first | omega | (simp; done) | (simp; omega)))
  refine ⟨w1, by rw [wb_self h1, wb_self h2, wb_self h3, wb_self h4, wb_self h5, wb_self h6, wb_self h7], ?_, hz, by omega, by omega, by omega, by omega, by omega, by omega, by omega⟩
  exact Below.trans (below_wb (below_wb (below_wb (below_wb (below_wb (below_wb (below_wb (Below.refl _ _) e1) e2) e3) e4) e5) e6) e7) (hb.mono (by first | omega | (simp; done) | (simp; omega)))
theorem behind_wb1_new {w w1 : World} {B b1 : Nat} {c0 c1 : Array Value} {t0 t1 : TypeId} (hb : Below ((w.alloc (.cells c0 t0)).wb b1 c1 t1).heap.size ((w.alloc (.cells c0 t0)).wb b1 c1 t1) w1) (l1 : b1 < w.heap.size) (e1 : B ≤ b1)  :
    ∃ w2, w1 = ((w2.wb b1 c1 t1).wb w.heap.size c0 t0) ∧ Below B w w2 ∧ w.heap.size < w2.heap.size ∧ b1 < w2.heap.size := by
  have hz := hb.size
  simp only [size_wb, World.size_alloc] at hz
  have h1 : w1.heap[b1]? = some (.cells c1 t1 (0, 0)) := (hb.block _ (by first | omega | (simp; done) | (simp; omega))).trans (heap_wb (by first | omega | (simp; done) | (simp; omega)))
  have h0 : w1.heap[w.heap.size]? = some (.cells c0 t0 (0, 0)) := (hb.block _ (by first | omega | (simp; done) | (simp; omega))).trans ((heap_wb_ne (by omega)).trans (heap_new _ _ _ rfl))
  refine ⟨w1, by rw [wb_self h1, wb_self h0], ?_, by omega, by omega⟩
  exact Below.trans (below_wb (Below.alloc (Below.refl B w) (by omega) _) e1) (hb.mono (by first | omega | (simp; done) | (simp; omega)))
theorem behind_wb2_new {w w1 : World} {B b1 b2 : Nat} {c0 c1 c2 : Array Value} {t0 t1 t2 : TypeId} (hb : Below (((w.alloc (.cells c0 t0)).wb b1 c1 t1).wb b2 c2 t2).heap.size (((w.alloc (.cells c0 t0)).wb b1 c1 t1).wb b2 c2 t2) w1) (l1 : b1 < w.heap.size) (l2 : b2 < w.heap.size) (e1 : B ≤ b1) (e2 : B ≤ b2) (n12 : b2 ≠ b1) :
    ∃ w2, w1 = (((w2.wb b1 c1 t1).wb b2 c2 t2).wb w.heap.size c0 t0) ∧ Below B w w2 ∧ w.heap.size < w2.heap.size ∧ b1 < w2.heap.size ∧ b2 < w2.heap.size := by
  have hz := hb.size
  simp only [size_wb, World.size_alloc] at hz
  have h1 : w1.heap[b1]? = some (.cells c1 t1 (0, 0)) := (hb.block _ (by first | omega | (simp; done) | (simp; omega))).trans ((heap_wb_ne n12).trans (heap_wb (by first | omega | (simp; done) | (simp; omega))))
  have h2 : w1.heap[b2]? = some (.cells c2 t2 (0, 0)) := (hb.block _ (by first | omega | (simp; done) | (simp; omega))).trans (heap_wb (by first | omega | (simp; done) | (simp; omega)))
  have h0 : w1.heap[w.heap.size]? = some (.cells c0 t0 (0, 0)) := (hb.block _ (by first | omega | (simp; done) | (simp; omega))).trans ((heap_wb_ne (by omega)).trans ((heap_wb_ne (by omega)).trans (heap_new _ _ _ rfl)))
  refine ⟨w1, by rw [wb_self h1, wb_self h2, wb_self h0], ?_, by omega, by omega, by omega⟩
  exact Below.trans (below_wb (below_wb (Below.alloc (Below.refl B w) (by omega) _) e1) e2) (hb.mono (by first | omega | (simp; done) | (simp; omega)))
theorem behind_wb3_new {w w1 : World} {B b1 b2 b3 : Nat} {c0 c1 c2 c3 : Array Value} {t0 t1 t2 t3 : TypeId} (hb : Below ((((w.alloc (.cells c0 t0)).wb b1 c1 t1).wb b2 c2 t2).wb b3 c3 t3).heap.size ((((w.alloc (.cells c0 t0)).wb b1 c1 t1).wb b2 c2 t2).wb b3 c3 t3) w1) (l1 : b1 < w.heap.size) (l2 : b2 < w.heap.size) (l3 : b3 < w.heap.size) (e1 : B ≤ b1) (e2 : B ≤ b2) (e3 : B ≤ b3) (n12 : b2 ≠ b1) (n13 : b3 ≠ b1) (n23 : b3 ≠ b2) :
    ∃ w2, w1 = ((((w2.wb b1 c1 t1).wb b2 c2 t2).wb b3 c3 t3).wb w.heap.size c0 t0) ∧ Below B w w2 ∧ w.heap.size < w2.heap.size ∧ b1 < w2.heap.size ∧ b2 < w2.heap.size ∧ b3 < w2.heap.size := by
  have hz := hb.size
  simp only [size_wb, World.size_alloc] at hz
  have h1 : w1.heap[b1]? = some (.cells c1 t1 (0, 0)) := (hb.block _ (by first | omega | (simp; done) | (simp; omega))).trans ((heap_wb_ne n13).trans ((heap_wb_ne n12).trans (heap_wb (by first | omega | (simp; done) | (simp; omega)))))
  have h2 : w1.heap[b2]? = some (.cells c2 t2 (0, 0)) := (hb.block _ (by first | omega | (simp; done) | (simp; omega))).trans ((heap_wb_ne n23).trans (heap_wb (by first | omega | (simp; done) | (simp; omega))))
  have h3 : w1.heap[b3]? = some (.cells c3 t3 (0, 0)) := (hb.block _ (by first | omega | (simp; done) | (simp; omega))).trans (heap_wb (by first | omega | (simp; done) | (simp; omega)))
  have h0 : w1.heap[w.heap.size]? = some (.cells c0 t0 (0, 0)) := (hb.block _ (by first | omega | (simp; done) | (simp; omega))).trans ((heap_wb_ne (by omega)).trans ((heap_wb_ne (by omega)).trans ((heap_wb_ne (by omega)).trans (heap_new _ _ _ rfl))))
  refine ⟨w1, by rw [wb_self h1, wb_self h2, wb_self h3, wb_self h0], ?_, by omega, by omega, by omega, by omega⟩
  exact Below.trans (below_wb (below_wb (below_wb (Below.alloc (Below.refl B w) (by omega) _) e1) e2) e3) (hb.mono (by first | omega | (simp; done) | (simp; omega)))
theorem behind_wb4_new {w w1 : World} {B b1 b2 b3 b4 : Nat} {c0 c1 c2 c3 c4 : Array Value} {t0 t1 t2 t3 t4 : TypeId} (hb : Below (((((w.alloc (.cells c0 t0)).wb b1 c1 t1).wb b2 c2 t2).wb b3 c3 t3).wb b4 c4 t4).heap.size (((((w.alloc (.cells c0 t0)).wb b1 c1 t1).wb b2 c2 t2).wb b3 c3 t3).wb b4 c4 t4) w1) (l1 : b1 < w.heap.size) (l2 : b2 < w.heap.size) (l3 : b3 < w.heap.size) (l4 : b4 < w.heap.size) (e1 : B ≤ b1) (e2 : B ≤ b2) (e3 : B ≤ b3) (e4 : B ≤ b4) (n12 : b2 ≠ b1) (n13 : b3 ≠ b1) (n14 : b4 ≠ b1) (n23 : b3 ≠ b2) (n24 : b4 ≠ b2) (n34 : b4 ≠ b3) :
    ∃ w2, w1 = (((((w2.wb b1 c1 t1).wb b2 c2 t2).wb b3 c3 t3).wb b4 c4 t4).wb w.heap.size c0 t0) ∧ Below B w w2 ∧ w.heap.size < w2.heap.size ∧ b1 < w2.heap.size ∧ b2 < w2.heap.size ∧ b3 < w2.heap.size ∧ b4 < w2.heap.size := by
  have hz := hb.size
  simp only [size_wb, World.size_alloc] at hz
  have h1 : w1.heap[b1]? = some (.cells c1 t1 (0, 0)) := (hb.block _ (by first | omega | (simp; done) | (simp; omega))).trans ((heap_wb_ne n14).trans ((heap_wb_ne n13).trans ((heap_wb_ne n12).trans (heap_wb (by first | omega | (simp; done) | (simp; omega))))))
  have h2 : w1.heap[b2]? = some (.cells c2 t2 (0, 0)) := (hb.block _ (by first | omega | (simp; done) | (simp; omega))).trans ((heap_wb_ne n24).trans ((heap_wb_ne n23).trans (heap_wb (by first | omega | (simp; done) | (simp; omega)))))
  have h3 : w1.heap[b3]? = some (.cells c3 t3 (0, 0)) := (hb.block _ (by first | omega | (simp; done) | (simp; omega))).trans ((heap_wb_ne n34).trans (heap_wb (by first | omega | (simp; done) | (simp; omega))))
  have h4 : w1.heap[b4]? = some (.cells c4 t4 (0, 0)) := (hb.block _ (by first | omega | (simp; done) | (simp; omega))).trans (heap_wb (by first | omega | (simp; done) | (simp; omega)))
  have h0 : w1.heap[w.heap.size]? = some (.cells c0 t0 (0, 0)) := (hb.block _ (by first | omega | (simp; done) | (simp; omega))).trans ((heap_wb_ne (by omega)).trans ((heap_wb_ne (by omega)).trans ((heap_wb_ne (by omega)).trans ((heap_wb_ne (by omega)).trans (heap_new _ _ _ rfl)))))
  refine ⟨w1, by rw [wb_self h1, wb_self h2, wb_self h3, wb_self h4, wb_self h0], ?_, by omega, by omega, by omega, by omega, by omega⟩
  exact Below.trans (below_wb (below_wb (below_wb (below_wb (Below.alloc (Below.refl B w) (by omega) _) e1) e2) e3) e4) (hb.mono (by first | omega | (simp; done) | (simp; omega)))
/-- A block that was just laid, laid over: so that it goes with the others. -/
theorem alloc_as_wb (w : World) (c : Array Value) (t : TypeId) : w.alloc (.cells c t) = (w.alloc (.cells c t)).wb w.heap.size c t := (wb_self (heap_new _ _ _ rfl)).symm

/-- The call leaves all that was there as it was, and hands back just v. -/
def Pur (P : Program) (f : FuncId) (args : Array Value) (w : World) (v : Value) : Prop := Calls P f args w fun e w' => e = .returned v ∧ Below w.heap.size w w'
theorem Pur.out {P : Program} {f : FuncId} {args : Array Value} {w : World} {v : Value} (h : Pur P f args w v) : Calls P f args w fun e w' => e = .returned v ∧ Below w.heap.size w w' := h
/-- The call changes nothing at all, and hands back just v. -/
def Sam (P : Program) (f : FuncId) (args : Array Value) (w : World) (v : Value) : Prop := Calls P f args w fun e w' => e = .returned v ∧ w = w'
theorem Sam.out {P : Program} {f : FuncId} {args : Array Value} {w : World} {v : Value} (h : Sam P f args w v) : Calls P f args w fun e w' => e = .returned v ∧ w = w' := h
/-- In a family 'all below B as in W'. -/
theorem Pur.at_ {P : Program} {f : FuncId} {args : Array Value} {W w : World} {v : Value} {B : Nat} (h : Pur P f args w v) (hB : B ≤ W.heap.size) (hb : Below B W w) : Calls P f args w fun e w' => e = .returned v ∧ Below B W w' :=
  h.out.mono fun _ _ ⟨he, hw⟩ => ⟨he, hb.trans (hw.mono (Nat.le_trans hB hb.size))⟩
end Go.Proofs.YtckbckdaffdjmaaDoor

/- A region that draws its order and holds WRITERS (an alloc, a call that writes, buildSlice, append ..) that wait for one another, among operations that leave what is known as it is. It is walked once, in an order of one's own choice (ord): all that a writer does not wait for stands ahead of it there. RL g w: what is known of the world, g the values of the writers so far. -/
namespace Go.Proofs.YtckbckdaffdjmaaDoor
open Go.RowKit
set_option linter.unusedVariables false
namespace Ph
section
variable {P : Program} {ops : Array Oper} {md : Region.Mode} {RL : List Value → World → Prop} {ws : Nat → Bool}

def Gives (P : Program) (R : Value → World → Prop) : Result Next → Prop
  | .ok (.value u) w' => R u w'
  | .ok .skip w' => R undef w'
  | .ok (.enter f args) w' => Calls P f args w' (fun e w'' => ∃ u, e = .returned u ∧ R u w'')
  | _ => False

/-- o comes to v, and leaves what is known: now, and behind later writers. -/
def ROk (P : Program) (RL : List Value → World → Prop) (o : Oper) (a : Act) (g : List Value) (v : Value) : Prop :=
  ∀ t w, RL (g ++ t) w → Gives P (fun u w' => u = v ∧ RL (g ++ t) w') ((execOp a.eval o).run P w)
/-- o writes: what is known behind it hangs on its value. -/
def WOk (P : Program) (RL : List Value → World → Prop) (o : Oper) (a : Act) (g : List Value) : Prop :=
  ∀ w, RL g w → Gives P (fun u w' => RL (g ++ [u]) w') ((execOp a.eval o).run P w)

def StP (P : Program) (ops : Array Oper) (RL : List Value → World → Prop) (ws : Nat → Bool) (i : Nat) (g : List Value) (K : List Value → Act → Prop) (a : Act) : Prop :=
  match ops[i]? with
  | none => K g a
  | some o =>
    if ws i = true then Region.wanted o (yielded ops a.tmps) = true ∧ WOk P RL o a g ∧ ∀ u, (∃ w, RL (g ++ [u]) w) → K (g ++ [u]) (a.put o.dst u)
    else if Region.wanted o (yielded ops a.tmps) = true then ∃ v, ROk P RL o a g v ∧ K g (a.put o.dst v) else K g (a.put o.dst undef)

theorem StP.mono {i : Nat} {g : List Value} {a : Act} {K K' : List Value → Act → Prop} (h : ∀ g a, K g a → K' g a) (hh : StP P ops RL ws i g K a) : StP P ops RL ws i g K' a := by
  unfold StP at *
  split
  · exact h _ _ (by simpa [*] using hh)
  · rename_i o ho
    simp only [ho] at hh
    split
    · rename_i hw; rw [if_pos hw] at hh; exact ⟨hh.1, hh.2.1, fun u hu => h _ _ (hh.2.2 u hu)⟩
    · rename_i hw
      rw [if_neg hw] at hh
      split
      · rename_i hn; rw [if_pos hn] at hh; obtain ⟨v, h1, h2⟩ := hh; exact ⟨v, h1, h _ _ h2⟩
      · rename_i hn; rw [if_neg hn] at hh; exact h _ _ hh

theorem wp_of_gives {o : Oper} {a : Act} {w : World} {R : Value → World → Prop} {K' : Act → World → Prop} {Q' : Exit → Act → World → Prop}
    (h : Gives P R ((execOp a.eval o).run P w)) (hk : ∀ u w', R u w' → K' (a.put o.dst u) w') : o.wp P a w K' Q' := by
  unfold Oper.wp
  generalize (execOp a.eval o).run P w = r at h
  cases r with
  | ok n w' =>
    cases n <;> simp only [Gives] at h <;> simp only [Oper.upon]
    case value u => exact hk _ _ h
    case skip => exact hk _ _ h
    case enter f args => exact Calls.mono h fun e w'' ⟨u, he, hw⟩ => by subst he; exact hk _ _ hw
  | halt x w' => simp only [Gives] at h

theorem wpOp_of_StP {i : Nat} {g : List Value} {a : Act} {w : World} {K : List Value → Act → Prop} {K' : Act → World → Prop} {Q' : Exit → Act → World → Prop} (hR : RL g w) (h : ∀ g a w, RL g w → K g a → K' a w) (hh : StP P ops RL ws i g K a) :
    wpOp P ops Q' i K' a w := by
  unfold StP at hh
  unfold wpOp
  split
  · rename_i ho; simp only [ho] at hh; exact h _ _ _ hR hh
  · rename_i o ho
    simp only [ho] at hh
    by_cases hws : ws i = true
    · rw [if_pos hws] at hh
      rw [if_pos hh.1]
      exact .inl (wp_of_gives (hh.2.1 w hR) fun u w' hw' => h _ _ _ hw' (hh.2.2 u ⟨w', hw'⟩))
    · rw [if_neg hws] at hh
      split
      · rename_i hn
        rw [if_pos hn] at hh
        obtain ⟨v, h1, h2⟩ := hh
        have h3 := h1 [] w (by simpa using hR)
        refine .inl (wp_of_gives h3 fun u w' ⟨he, hw'⟩ => ?_)
        subst he
        exact h _ _ _ (by simpa using hw') h2
      · rename_i hn
        rw [if_neg hn] at hh
        exact h _ _ _ hR hh

/-- The reader's value, now and behind later writers. -/
def YieldsP (P : Program) (ops : Array Oper) (RL : List Value → World → Prop) (o : Oper) (v : Value) (g : List Value) (a : Act) : Prop :=
  (Region.wanted o (yielded ops a.tmps) = true ∧ ROk P RL o a g v) ∨ (Region.wanted o (yielded ops a.tmps) = false ∧ v = undef)

theorem YieldsP.later {o : Oper} {v u : Value} {g : List Value} {a : Act} (h : YieldsP P ops RL o v g a) : YieldsP P ops RL o v (g ++ [u]) a := by
  rcases h with ⟨h1, h2⟩ | h
  · exact .inl ⟨h1, fun t w hw => by
      have := h2 ([u] ++ t) w (by rw [← List.append_assoc]; exact hw)
      rw [← List.append_assoc] at this; exact this⟩
  · exact .inr h

theorem YieldsP.stP {i : Nat} {o : Oper} {v : Value} {g : List Value} {a : Act} (hi : ops[i]? = some o) (hws : ws i = false) (hy : YieldsP P ops RL o v g a) {K : List Value → Act → Prop} (h : K g (a.put o.dst v)) : StP P ops RL ws i g K a := by
  unfold StP
  simp only [hi, hws]
  rw [if_neg (by decide)]
  rcases hy with ⟨hw, hv⟩ | ⟨hw, rfl⟩
  · rw [if_pos hw]; exact ⟨v, hv, h⟩
  · rw [if_neg (by rw [hw]; decide)]; exact h

theorem YieldsP.of_same {o : Oper} {v : Value} {g : List Value} {a a' : Act} (hy : YieldsP P ops RL o v g a) (he : execOp a'.eval o = execOp a.eval o)
    (hw : Region.wanted o (yielded ops a'.tmps) = Region.wanted o (yielded ops a.tmps)) : YieldsP P ops RL o v g a' := by
  unfold YieldsP ROk at *
  rw [he, hw]
  exact hy

theorem yieldsP_of_stP {i : Nat} {o : Oper} {g : List Value} {a : Act} {K : List Value → Act → Prop} (hi : ops[i]? = some o) (hws : ws i = false) (h : StP P ops RL ws i g K a) : ∃ v, YieldsP P ops RL o v g a ∧ K g (a.put o.dst v) := by
  unfold StP at h
  simp only [hi, hws] at h
  rw [if_neg (by decide)] at h
  by_cases hw : Region.wanted o (yielded ops a.tmps) = true
  · rw [if_pos hw] at h
    obtain ⟨v, h1, h2⟩ := h
    exact ⟨v, .inl ⟨hw, h1⟩, h2⟩
  · rw [if_neg hw] at h
    exact ⟨undef, .inr ⟨by simpa using hw, rfl⟩, h⟩

def wpAnyP (P : Program) (md : Region.Mode) (ops : Array Oper) (RL : List Value → World → Prop) (ws : Nat → Bool) (n : Nat) (L : Array Bool → List Value → Act → Prop) : Nat → Array Bool → List Value → Act → Prop
  | 0, listed, g, a => L listed g a
  | f + 1, listed, g, a =>
    Region.ready md ops listed ≠ [] ∧ ∀ i ∈ Region.ready md ops listed, i < n ∧ StP P ops RL ws i g (wpAnyP P md ops RL ws n L f (listed.setIfInBounds i true)) a

theorem wpAny_of_headP {n m : Nat} {L : Array Bool → List Value → Act → Prop} {Q' : Exit → Act → World → Prop} (hL : ∀ listed g a w, RL g w → L listed g a → wpAny P md ops Q' m listed a w) :
    ∀ (f : Nat) (listed : Array Bool) (g : List Value) (a : Act) (w : World), RL g w → wpAnyP P md ops RL ws n L f listed g a → wpAny P md ops Q' (f + m) listed a w
  | 0, listed, g, a, w, hw, h => by rw [Nat.zero_add]; exact hL _ _ _ _ hw h
  | f + 1, listed, g, a, w, hw, h => by
    rw [show f + 1 + m = (f + m) + 1 by omega]
    exact ⟨fun h0 => absurd h0 h.1, fun i hi => wpOp_of_StP hw (fun g' a' w' hw' h' => wpAny_of_headP hL f _ g' a' w' hw' h') (h.2 i hi).2⟩

/-- A reader that is ready may go first. -/
theorem wpAnyP_first {n i : Nat} {oi : Oper} {v : Value} {L : Array Bool → List Value → Act → Prop} (hi : ops[i]? = some oi) (hwi : ws i = false) (hsel : ∀ (j : Nat) (o : Oper) cs b, ops[j]? = some o → o.op ≠ .select cs b)
    (hin : i < n) (hwait : ∀ listed, HeadInv md ops n listed → listed.getD i true = false → ∀ j ∈ Region.ready md ops listed, j < n)
    (hdone : ∀ listed g a, L listed g a → ∀ j ∈ Region.ready md ops listed, n ≤ j) :
    ∀ (f : Nat) (listed : Array Bool) (g : List Value) (a : Act), HeadInv md ops n listed →
      (∀ j oj, ops[j]? = some oj → j ≠ i → listed.getD j true = false → (∀ e ∈ oj.after, Region.binds md e = true → e.on ≠ i) → oi.apart ops oj = true) →
      i ∈ Region.ready md ops listed → YieldsP P ops RL oi v g a →
      wpAnyP P md ops RL ws n L f (listed.setIfInBounds i true) g (a.put oi.dst v) → wpAnyP P md ops RL ws n L (f + 1) listed g a := by
  intro f
  induction f with
  | zero =>
    intro listed g a inv _ hr hy H
    have hun := (mem_ready.1 hr).1
    refine ⟨fun h => (by rw [h] at hr; cases hr), fun j hj => ?_⟩
    have hjn : j < n := hwait listed inv hun j hj
    refine ⟨hjn, ?_⟩
    by_cases hji : j = i
    · subst hji; exact hy.stP hi hwi H
    · have := hdone _ _ _ H j (ready_mono hj hji)
      omega
  | succ f ih =>
    intro listed g a inv hfree hr hy H
    have hun := (mem_ready.1 hr).1
    refine ⟨fun h => (by rw [h] at hr; cases hr), fun j hj => ?_⟩
    have hjn : j < n := hwait listed inv hun j hj
    refine ⟨hjn, ?_⟩
    by_cases hji : j = i
    · subst hji; exact hy.stP hi hwi H
    · have h1 := (H.2 j (ready_mono hj hji)).2
      obtain ⟨hjun, oj, hoj, hall⟩ := mem_ready.1 hj
      have hnot : ∀ e ∈ oj.after, Region.binds md e = true → e.on ≠ i := fun e he hb heq => by
        have h1 := hall e he hb
        rw [heq, getD_both hun] at h1
        cases h1
      have hap := hfree j oj hoj hji hjun hnot
      obtain ⟨a1, a2, a3⟩ := Oper.apart_spec hap
      have hsi := fun cs b => hsel i oi cs b hi
      have hsj := fun cs b => hsel j oj cs b hoj
      have hfree' : ∀ k ok, ops[k]? = some ok → k ≠ i → (listed.setIfInBounds j true).getD k true = false →
          (∀ e ∈ ok.after, Region.binds md e = true → e.on ≠ i) → oi.apart ops ok = true := fun k ok hk hki hun hno => by
        refine hfree k ok hk hki ?_ hno
        by_cases hjk : j = k
        · subst hjk; exact hjun
        · rw [getD_set_ne true hjk] at hun; exact hun
      have keep : ∀ u g', YieldsP P ops RL oi v g' a → YieldsP P ops RL oi v g' (a.put oj.dst u) := fun u g' hy =>
        hy.of_same (execOp_put oi hsi a oj.dst u a3) (wanted_put oi a oj.dst u a3)
      have hwj : Region.wanted oj (yielded ops (a.put oi.dst v).tmps) = Region.wanted oj (yielded ops a.tmps) := wanted_put oj a oi.dst v a1
      have hej : execOp (a.put oi.dst v).eval oj = execOp a.eval oj := execOp_put oj hsj a oi.dst v a1
      have next : ∀ u g', YieldsP P ops RL oi v g' a → wpAnyP P md ops RL ws n L f ((listed.setIfInBounds i true).setIfInBounds j true) g' ((a.put oi.dst v).put oj.dst u) → wpAnyP P md ops RL ws n L (f + 1) (listed.setIfInBounds j true) g' (a.put oj.dst u) := fun u g' hy' h3 => by
        refine ih (listed.setIfInBounds j true) g' (a.put oj.dst u) (inv.set hj hjn) hfree' (ready_mono hr (Ne.symm hji)) (keep u g' hy') ?_
        rw [Array.setIfInBounds_comm _ _ hji, ← Act.put_comm a v u a2]
        exact h3
      cases hwsj : ws j with
      | false =>
        obtain ⟨u, hu, hK⟩ := yieldsP_of_stP hoj hwsj h1
        have hu' : YieldsP P ops RL oj u g a := hu.of_same hej.symm hwj.symm
        exact hu'.stP hoj hwsj (next u g hy hK)
      | true =>
        unfold StP at h1 ⊢
        simp only [hoj, hwsj] at h1 ⊢
        rw [if_pos trivial] at h1 ⊢
        obtain ⟨b1, b2, b3⟩ := h1
        refine ⟨by rw [← hwj]; exact b1, ?_, fun u hu => next u _ hy.later (b3 u hu)⟩
        unfold WOk at b2 ⊢
        rw [hej] at b2
        exact b2

/-- The order of one's own: each stands where it is ready; a writer where nothing else is. -/
def ordB (md : Region.Mode) (ops : Array Oper) (ws : Nat → Bool) (m n : Nat) : List Nat → Array Bool → Bool
  | [], listed => Region.seqB md ops m n listed
  | i :: l, listed => decide (i < n) && (if ws i = true then decide (Region.ready md ops listed = [i]) else (Region.ready md ops listed).contains i && Region.free md ops listed i) && ordB md ops ws m n l (listed.setIfInBounds i true)

def wpP (P : Program) (ops : Array Oper) (RL : List Value → World → Prop) (ws : Nat → Bool) (Lq : List Value → Act → Prop) : List Nat → List Value → Act → Prop
  | [], g, a => Lq g a
  | i :: l, g, a => StP P ops RL ws i g (wpP P ops RL ws Lq l) a

theorem wpAnyP_ord {n m : Nat} {Lq : List Value → Act → Prop} (hsel : Region.noSelect ops = true)
    (hwait : ∀ i, i < n → ∀ listed, HeadInv md ops n listed → listed.getD i true = false → ∀ j ∈ Region.ready md ops listed, j < n) :
    ∀ (l : List Nat) (listed : Array Bool) (g : List Value) (a : Act), HeadInv md ops n listed → ordB md ops ws m n l listed = true → wpP P ops RL ws Lq l g a →
      wpAnyP P md ops RL ws n (fun listed' g' a' => Region.seqB md ops m n listed' = true ∧ Lq g' a') l.length listed g a
  | [], listed, g, a, _, hB, h => ⟨by simpa [ordB] using hB, h⟩
  | i :: l, listed, g, a, inv, hB, h => by
    simp only [ordB, Bool.and_eq_true, decide_eq_true_eq] at hB
    obtain ⟨⟨hin, hB1⟩, hB2⟩ := hB
    cases hw : ws i with
    | true =>
      rw [hw, if_pos rfl] at hB1
      have hr : Region.ready md ops listed = [i] := by simpa using hB1
      refine ⟨by rw [hr]; exact List.cons_ne_nil _ _, fun j hj => ?_⟩
      rw [hr] at hj
      have hji : j = i := by simpa using hj
      subst hji
      exact ⟨hin, StP.mono (fun g' a' h' => wpAnyP_ord hsel hwait l _ g' a' (inv.set (by rw [hr]; simp) hin) hB2 h') h⟩
    | false =>
      rw [hw, if_neg (by decide)] at hB1
      simp only [Bool.and_eq_true] at hB1
      have hr : i ∈ Region.ready md ops listed := by simpa using hB1.1
      obtain ⟨_, oi, hoi, _⟩ := mem_ready.1 hr
      obtain ⟨v, hy, hK⟩ := yieldsP_of_stP hoi hw h
      exact wpAnyP_first hoi hw (Region.noSelect_spec hsel) hin (hwait i hin) (fun listed' g' a' hL => seqB_ready hL.1) l.length listed g a inv (Region.free_spec hoi hB1.2) hr hy
        (wpAnyP_ord hsel hwait l _ g _ (inv.set hr hin) hB2 hK)

def phB (ops : Array Oper) (ws : Nat → Bool) (n : Nat) (ord : List Nat) : Bool :=
  Region.noSelect ops && decide (n < ops.size) && Region.sinkB .any ops n && Region.chainB .any ops n && decide (ord.length = n) && ordB .any ops ws (ops.size - n) n ord (Array.replicate ops.size false)

/-- The region: ord over its first n operations, the others behind them, one after the other. -/
theorem wp_region_P {id : Nat} {Q : Exit → Act → World → Prop} {a : Act} {w : World} {l : List Oper} (RL : List Value → World → Prop) (ws : Nat → Bool) (n : Nat) (ord : List Nat) (hm : P.follows .mixedOrders = true) (hB : phB l.toArray ws n ord = true)
    (hR : RL [] { w with drawn := w.drawn + 1 })
    (h : wpP P l.toArray RL ws (fun g a' => ∀ w', RL g w' → wpList P l.toArray Q (l.drop n) a' w') ord [] a) : (Code.region id l.toArray true).wp P Q a w := by
  simp only [phB, Bool.and_eq_true, decide_eq_true_eq] at hB
  obtain ⟨⟨⟨⟨⟨hsel, hn⟩, hs⟩, hc⟩, hlen⟩, hord⟩ := hB
  have hn' : n < l.length := by simpa using hn
  have hdl : (l.drop n).length = l.toArray.size - n := by simp
  have inv0 : HeadInv .any l.toArray n (Array.replicate l.toArray.size false) :=
    ⟨by simp, fun j oj _ hl => (by rw [getD_replicate_false] at hl; cases hl), fun t _ ht => getD_in (by simpa using ht) (getD_replicate_false _ _)⟩
  have hwait : ∀ i, i < n → ∀ listed, HeadInv .any l.toArray n listed → listed.getD i true = false → ∀ j ∈ Region.ready .any l.toArray listed, j < n := fun i hi listed inv hun j hj => by
    rcases Nat.lt_or_ge j n with h' | h'
    · exact h'
    · exact absurd hj (tail_waits hs hc hn inv _ i rfl hi hun j h')
  have H := wpAnyP_ord (md := .any) (m := l.toArray.size - n) hsel hwait ord _ [] a inv0 hord h
  have H2 := wpAny_of_headP (m := l.toArray.size - n) (Q' := Q) (fun listed' g' a' w' hw' hL => by
    have hseq := hL.1
    rw [← hdl] at hseq ⊢
    exact wpAny_of_seq (l.drop n) n listed' a' w' (fun j => by simp) hseq (hL.2 w' hw')) _ _ [] a _ hR H
  have e : ord.length + (l.toArray.size - n) = l.toArray.size := by omega
  rw [e] at H2
  exact wp_region_any hm H2

/-! ### steps -/
variable {Lq : List Value → Act → Prop} {i : Nat} {rest : List Nat} {g : List Value} {a : Act} {o : Oper}
theorem wpP_nil (h : Lq g a) : wpP P ops RL ws Lq [] g a := h
/-- One operation that only computes or reads. -/
theorem wpP_val {v : Value} (hi : ops[i]? = some o) (hw : ws i = false) (hg : o.guard = none) (hv : ∀ t w, RL (g ++ t) w → (execOp a.eval o).run P w = .ok (.value v) w) (h : wpP P ops RL ws Lq rest g (a.put o.dst v)) : wpP P ops RL ws Lq (i :: rest) g a :=
  YieldsP.stP hi hw (.inl ⟨by simp [Region.wanted, hg], fun t w hR => by rw [hv t w hR]; exact ⟨rfl, hR⟩⟩) h
/-- One call that leaves all that lies. -/
theorem wpP_call {v : Value} {f : FuncId} {args : Array Value} (hmono : ∀ g w w', RL g w → Below w.heap.size w w' → RL g w') (hi : ops[i]? = some o) (hw : ws i = false) (hg : o.guard = none) (hv : ∀ t w, RL (g ++ t) w → (execOp a.eval o).run P w = .ok (.enter f args) w)
    (hc : ∀ t w, RL (g ++ t) w → Pur P f args w v) (h : wpP P ops RL ws Lq rest g (a.put o.dst v)) : wpP P ops RL ws Lq (i :: rest) g a :=
  YieldsP.stP hi hw (.inl ⟨by simp [Region.wanted, hg], fun t w hR => by
    rw [hv t w hR]
    exact (hc t w hR).out.mono fun e w'' ⟨he, hb⟩ => ⟨v, he, rfl, hmono _ _ _ hR hb⟩⟩) h
/-- A writer that calls nothing. -/
theorem wpP_write (hi : ops[i]? = some o) (hw : ws i = true) (hg : o.guard = none) (hv : ∀ w, RL g w → ∃ u w', (execOp a.eval o).run P w = .ok (.value u) w' ∧ RL (g ++ [u]) w')
    (h : ∀ u w, RL (g ++ [u]) w → wpP P ops RL ws Lq rest (g ++ [u]) (a.put o.dst u)) : wpP P ops RL ws Lq (i :: rest) g a := by
  show StP P ops RL ws i g _ a
  unfold StP
  simp only [hi, hw]
  rw [if_pos trivial]
  refine ⟨by simp [Region.wanted, hg], fun w hR => ?_, fun u ⟨w, hR⟩ => h u w hR⟩
  obtain ⟨u, w', e, hR'⟩ := hv w hR
  rw [e]; exact hR'
/-- A writer that is a call. -/
theorem wpP_write_call {f : FuncId} {args : Array Value} (hi : ops[i]? = some o) (hw : ws i = true) (hg : o.guard = none) (hv : ∀ w, RL g w → (execOp a.eval o).run P w = .ok (.enter f args) w)
    (hc : ∀ w, RL g w → Calls P f args w fun e w' => ∃ u, e = .returned u ∧ RL (g ++ [u]) w')
    (h : ∀ u w, RL (g ++ [u]) w → wpP P ops RL ws Lq rest (g ++ [u]) (a.put o.dst u)) : wpP P ops RL ws Lq (i :: rest) g a := by
  show StP P ops RL ws i g _ a
  unfold StP
  simp only [hi, hw]
  rw [if_pos trivial]
  refine ⟨by simp [Region.wanted, hg], fun w hR => ?_, fun u ⟨w, hR⟩ => h u w hR⟩
  rw [hv w hR]; exact hc w hR
end
end Ph
end Go.Proofs.YtckbckdaffdjmaaDoor

/- Steps of RegP under guards; and the families 'all that lay at the beginning lies so, and F of the writers' values'. -/
namespace Go.Proofs.YtckbckdaffdjmaaDoor
open Go.RowKit
set_option linter.unusedVariables false
namespace Ph
section
variable {P : Program} {ops : Array Oper} {RL : List Value → World → Prop} {ws : Nat → Bool} {Lq : List Value → Act → Prop} {i : Nat} {rest : List Nat} {g : List Value} {a : Act} {o : Oper}

theorem wpP_pass (hi : ops[i]? = some o) (hw : ws i = false) (hn : Region.wanted o (yielded ops a.tmps) = false) (h : wpP P ops RL ws Lq rest g (a.put o.dst undef)) : wpP P ops RL ws Lq (i :: rest) g a :=
  YieldsP.stP hi hw (.inr ⟨hn, rfl⟩) h
theorem wpP_val_want {v : Value} (hi : ops[i]? = some o) (hw : ws i = false) (hg : Region.wanted o (yielded ops a.tmps) = true) (hv : ∀ t w, RL (g ++ t) w → (execOp a.eval o).run P w = .ok (.value v) w) (h : wpP P ops RL ws Lq rest g (a.put o.dst v)) : wpP P ops RL ws Lq (i :: rest) g a :=
  YieldsP.stP hi hw (.inl ⟨hg, fun t w hR => by rw [hv t w hR]; exact ⟨rfl, hR⟩⟩) h
theorem wpP_call_want {v : Value} {f : FuncId} {args : Array Value} (hmono : ∀ g w w', RL g w → Below w.heap.size w w' → RL g w') (hi : ops[i]? = some o) (hw : ws i = false) (hg : Region.wanted o (yielded ops a.tmps) = true) (hv : ∀ t w, RL (g ++ t) w → (execOp a.eval o).run P w = .ok (.enter f args) w)
    (hc : ∀ t w, RL (g ++ t) w → Pur P f args w v) (h : wpP P ops RL ws Lq rest g (a.put o.dst v)) : wpP P ops RL ws Lq (i :: rest) g a :=
  YieldsP.stP hi hw (.inl ⟨hg, fun t w hR => by
    rw [hv t w hR]
    exact (hc t w hR).out.mono fun e w'' ⟨he, hb⟩ => ⟨v, he, rfl, hmono _ _ _ hR hb⟩⟩) h
/-- A store: it gives no value. -/
theorem wpP_store (hi : ops[i]? = some o) (hw : ws i = true) (hg : o.guard = none) (hd : o.dst = none) (hu : ∀ u w, RL (g ++ [u]) w → u = undef) (hv : ∀ w, RL g w → ∃ w', (execOp a.eval o).run P w = .ok .skip w' ∧ RL (g ++ [undef]) w')
    (h : wpP P ops RL ws Lq rest (g ++ [undef]) a) : wpP P ops RL ws Lq (i :: rest) g a := by
  show StP P ops RL ws i g _ a
  unfold StP
  simp only [hi, hw]
  rw [if_pos trivial]
  refine ⟨by simp [Region.wanted, hg], fun w hR => ?_, fun u ⟨w, hR⟩ => ?_⟩
  · obtain ⟨w', e, hR'⟩ := hv w hR
    rw [e]; exact hR'
  · obtain rfl := hu u w hR
    rw [hd]; exact h
end
end Ph
end Go.Proofs.YtckbckdaffdjmaaDoor

/- What all the walks of this seat use: loops that count their rounds, frames with free slots, regions walked in a family of worlds. -/
namespace Go.Proofs.YtckbckdaffdjmaaDoor
open Go.RowKit
set_option linter.unusedVariables false
set_option linter.unusedSimpArgs false

theorem ret_i64 {a b : Int} (h : a = b) : Ending.returned (.int .i64 a) = .returned (.int .i64 b) := by rw [h]
theorem ret_int {k : IntKind} {a b : Int} (h : a = b) : Ending.returned (.int k a) = .returned (.int k b) := by rw [h]
theorem ret_bool {a b : Bool} (h : a = b) : Ending.returned (.bool a) = .returned (.bool b) := by rw [h]
theorem has_cell {w : World} {b : Nat} {c : Array Value} {t : TypeId} (h : w.heap[b]? = some (.cells c t (0, 0))) (o : Nat) : w.cell? ⟨b, o, none⟩ = c[o]? := by simp [World.cell?, h]
theorem heap_lt {w : World} {b : Nat} {o : Obj} (h : w.heap[b]? = some o) : b < w.heap.size := (Array.getElem?_eq_some_iff.1 h).1
theorem cell_lt {w : World} {a : Addr} {v : Value} (h : w.cell? a = some v) : a.block < w.heap.size := by
  unfold World.cell? at h
  split at h
  · rename_i hh
    exact (Array.getElem?_eq_some_iff.1 hh).1
  · simp at h
theorem blk_below {w w' : World} {b : Nat} {o : Obj} (h : w.heap[b]? = some o) (hb : Below w.heap.size w w') : w'.heap[b]? = some o := (hb.block b (heap_lt h)).trans h
theorem blk_grown {w w' : World} {b : Nat} {o : Obj} {r : Option Nat} (h : w.heap[b]? = some o) (hb : w.grownBy w' r) (hne : r ≠ some b) : w'.heap[b]? = some o := (hb.block b (heap_lt h) (fun e => hne e.symm)).trans h
theorem add_flat (g o i : Nat) : (⟨g, o, none⟩ : Addr).add i = ⟨g, o + i, none⟩ := by unfold Addr.add; split <;> simp_all

theorem wp_region_here {P : Program} {id : Nat} {Q : Exit → Act → World → Prop} {a : Act} {w : World} {l : List Oper} (hm : P.follows .mixedOrders = true) (hB : Region.lexB .any l.toArray = true)
    (h : wpR P l.toArray (Below w.heap.size w) (fun a' => ∀ w', Below w.heap.size w w' → Q .normal a' w') l a) : (Code.region id l.toArray true).wp P Q a w :=
  wp_region_R (Below w.heap.size w) hm hB ⟨rfl, rfl, rfl, Nat.le_refl _, fun _ _ => rfl⟩ h

/-- A loop of n rounds under an invariant that counts them. -/
theorem wp_loop_count {P : Program} {c : Code} {Q : Exit → Act → World → Prop} {a : Act} {w : World} (I : Nat → Act → World → Prop) (n : Nat) (h0 : I 0 a w)
    (hstep : ∀ i a w, i < n → I i a w → c.wp P (Exit.then (I (i + 1)) Q) a w) (hend : ∀ a w, I n a w → c.wp P (Exit.then (fun _ _ => False) Q) a w) : (Code.loop c).wp P Q a w := by
  have key : ∀ k i a w, i + k = n → I i a w → Code.rounds P c Q (k + 1) a w := by
    intro k
    induction k with
    | zero =>
      intro i a w hi h
      have : i = n := by omega
      subst this
      exact hend a w h
    | succ k ih =>
      intro i a w hi h
      refine Code.wp_mono (fun e a' w' he => ?_) (hstep i a w (by omega) h)
      cases e <;> first | exact ih (i + 1) a' w' (by omega) he | exact he
  exact wp_loop_rounds (n + 1) (key n 0 a w (by omega) h0)
theorem exU {t : Array Value} (F : (Nat → Value) → Act) (h : (⟨t, []⟩ : Act) = F (fun k => t.getD k undef)) : ∃ U, (⟨t, []⟩ : Act) = F U := ⟨_, h⟩
theorem i64_next (i : Nat) (h : i < 9223372036854775807) : IntKind.i64.wrap ((i : Int) + 1) = ((i + 1 : Nat) : Int) := by
  rw [IntWalk.i64_in _ ⟨by omega, by omega⟩]; rfl
theorem results_tmp4 {fn : Func} {t u v x : Tmp} (h : fn.results = #[.tmp t, .tmp u, .tmp v, .tmp x]) (tmps : Array Value) (P : Program) (w : World) :
    (results fn tmps).run P w = .ok (.tuple #[tmps.getD t undef, tmps.getD u undef, tmps.getD v undef, tmps.getD x undef]) w := by simp [results, h]
end Go.Proofs.YtckbckdaffdjmaaDoor

/- Words in memory: a slice that reads as a list of words (RU); a row of the call's own that holds one (OU); append, slicing. -/
namespace Go.Proofs.YtckbckdaffdjmaaDoor
open Go.RowKit
set_option linter.unusedVariables false
set_option linter.unusedSimpArgs false

/-- A word as a value. -/
abbrev uv (b : UInt64) : Value := .int .u64 (b.toNat : Int)

/-- v is a slice that reads as l. -/
def RU (w : World) (v : Value) (l : List UInt64) : Prop :=
  ∃ p c, v = .slice p l.length c ∧ l.length ≤ c ∧ c ≤ maxLen ∧ l.length ≤ 17592186044416 ∧
    ∀ i b, l[i]? = some b → ∃ g o, p = some ⟨g, o, none⟩ ∧ g < w.heap.size ∧ w.cell? ⟨g, o + i, none⟩ = some (uv b)
/-- v is a slice of a block of the call's own (from B on) that holds l at its head. -/
def OU (B : Nat) (w : World) (v : Value) (l : List UInt64) : Prop := w.ownsRow B 58 1 v l.length (l.map uv) ∧ l.length ≤ 17592186044416

section
variable {w w' : World} {B : Nat} {v : Value} {l m : List UInt64}
theorem RU.nil_ (w : World) : RU w (.slice none 0 0) [] := ⟨none, 0, rfl, Nat.le_refl _, Nat.zero_le _, Nat.zero_le _, fun i b h => by simp at h⟩
theorem RU.keep (h : RU w v l) (hs : w.heap.size ≤ w'.heap.size) (hk : l ≠ [] → ∀ g o, v.ownBlock = some g → g < w.heap.size → w'.cell? ⟨g, o, none⟩ = w.cell? ⟨g, o, none⟩) : RU w' v l := by
  obtain ⟨p, c, rfl, h1, h2, h3, hr⟩ := h
  refine ⟨p, c, rfl, h1, h2, h3, fun i b hb => ?_⟩
  obtain ⟨g, o, rfl, hg, hc⟩ := hr i b hb
  exact ⟨g, o, rfl, by omega, (hk (by intro e; subst e; simp at hb) g _ rfl hg).trans hc⟩
theorem RU.below (h : RU w v l) (hb : Below w.heap.size w w') : RU w' v l := h.keep hb.size fun _ g o _ hg => (bcell hb).1 g o hg
theorem RU.belowB (h : RU w v l) (hb : Below B w w') (hB : l ≠ [] → ∀ g, v.ownBlock = some g → g < B) : RU w' v l := h.keep hb.size fun hl g o e hg => (bcellB hb).1 g o (hB hl g e)
theorem RU.grown (h : RU w v l) {r : Option Nat} (hg : w.grownBy w' r) (hne : l ≠ [] → ∀ g, v.ownBlock = some g → r ≠ some g) : RU w' v l :=
  h.keep hg.size fun hl g o e hlt => World.cell?_of_block (hg.block g hlt (fun e' => hne hl g e e'.symm))
theorem RU.form (h : RU w v l) : ∃ p c, v = .slice p l.length c := by obtain ⟨p, c, e, _⟩ := h; exact ⟨p, c, e⟩
theorem RU.len (h : RU w v l) : l.length ≤ 17592186044416 := by obtain ⟨p, c, rfl, _, _, h3, _⟩ := h; exact h3
theorem RU.block (h : RU w v l) (hl : l ≠ []) : ∀ g, v.ownBlock = some g → g < w.heap.size := by
  obtain ⟨p, c, rfl, h1, h2, h3, hr⟩ := h
  intro g hg
  obtain ⟨b, r, rfl⟩ : ∃ b r, l = b :: r := by cases l with | nil => exact absurd rfl hl | cons b r => exact ⟨b, r, rfl⟩
  obtain ⟨g', o, rfl, hlt, _⟩ := hr 0 b rfl
  simp only [Value.ownBlock, Option.some.injEq] at hg
  omega

theorem OU.nil_ (B : Nat) (w : World) : OU B w (.slice none 0 0) [] := ⟨World.ownsRow_nil w B 58 1, Nat.zero_le _⟩
theorem OU.lt (h : OU B w v l) : ∀ k, v.ownBlock = some k → B ≤ k ∧ k < w.heap.size := h.1.lt
theorem OU.kept (h : OU B w v l) {r : Option Nat} (hg : w.grownBy w' r) (hne : ∀ g, v.ownBlock = some g → r ≠ some g) : OU B w' v l := by
  refine ⟨h.1.kept hg ?_, h.2⟩
  cases e : v.ownBlock with
  | none => exact .inl rfl
  | some g => exact .inr fun e' => hne g e e'.symm
theorem below_grownU {r : Option Nat} (hb : Below w.heap.size w w') : w.grownBy w' r := ⟨hb.os, hb.tape, hb.output, hb.size, fun k hk _ => hb.block k hk⟩
theorem OU.below (h : OU B w v l) (hb : Below w.heap.size w w') : OU B w' v l := h.kept (r := none) (below_grownU hb) (fun g _ e => by cases e)
theorem OU.more (h : OU B w v l) {B' : Nat} (hB : B' ≤ B) : OU B' w v l := by
  obtain ⟨⟨h0, h1 | ⟨g, cap, cur, rfl, hb, hg, r⟩⟩, hl⟩ := h
  · exact ⟨⟨h0, .inl h1⟩, hl⟩
  · exact ⟨⟨h0, .inr ⟨g, cap, cur, rfl, by omega, hg, r⟩⟩, hl⟩
theorem OU.ru (h : OU B w v l) : RU w v l := by
  obtain ⟨⟨h0, ⟨rfl, hn⟩ | ⟨g, cap, cur, rfl, hB, hg, hn, hc, hs, ht⟩⟩, hl⟩ := h
  · have : l = [] := List.eq_nil_of_length_eq_zero hn
    subst this
    exact RU.nil_ w
  · refine ⟨_, cap, rfl, hn, hc, hl, fun i b hb => ⟨g, 0, rfl, heap_lt hg, ?_⟩⟩
    have hi : i < l.length := (List.getElem?_eq_some_iff.1 hb).1
    have h1 : (cur.toList.take (l.length * 1))[i]? = some (uv b) := by rw [ht]; simp [hb]
    rw [List.getElem?_take, if_pos (by omega)] at h1
    simp only [World.cell?, hg]
    simpa using h1
theorem OU.form (h : OU B w v l) (hl : l ≠ []) : ∃ g cap, v = .slice (some ⟨g, 0, none⟩) l.length cap ∧ B ≤ g ∧ g < w.heap.size ∧ l.length ≤ cap ∧ cap ≤ maxLen ∧
    (∀ i b, l[i]? = some b → w.cell? ⟨g, i, none⟩ = some (uv b)) ∧ ∀ i, w.frozen? ⟨g, i, none⟩ = false := by
  have hr := h.ru
  obtain ⟨⟨h0, ⟨rfl, hn⟩ | ⟨g, cap, cur, rfl, hB, hg, hn, hc, hs, ht⟩⟩, hm⟩ := h
  · exact absurd (List.eq_nil_of_length_eq_zero hn) hl
  · refine ⟨g, cap, rfl, hB, heap_lt hg, hn, hc, fun i b hb => ?_, fun i => by simp [World.frozen?, hg]⟩
    obtain ⟨p, c, e, _, _, _, hcell⟩ := hr
    obtain ⟨g', o, e1, _, hx⟩ := hcell i b hb
    injection e with e2
    subst e2
    injection e1 with e1
    injection e1 with e3 e4
    subst e3 e4
    simpa using hx
/-- A part of it. -/
theorem RU.sub {g o c : Nat} (h : RU w (.slice (some ⟨g, o, none⟩) l.length c) l) (lo n c' : Nat) (hn : lo + n ≤ l.length) (hc : n ≤ c') (hm : c' ≤ maxLen) :
    RU w (.slice (some ⟨g, o + lo, none⟩) n c') ((l.drop lo).take n) := by
  obtain ⟨p, c1, e, h1, h2, h3, hr⟩ := h
  simp only [Value.slice.injEq] at e
  obtain ⟨e1, _, _⟩ := e
  subst e1
  have hl : ((l.drop lo).take n).length = n := by rw [List.length_take, List.length_drop]; omega
  refine ⟨_, c', by rw [hl], by rw [hl]; exact hc, hm, by rw [hl]; omega, fun i b hb => ?_⟩
  have hi : i < n := by have := (List.getElem?_eq_some_iff.1 hb).1; omega
  rw [List.getElem?_take, if_pos hi, List.getElem?_drop] at hb
  obtain ⟨g', o', e, hg, hcell⟩ := hr _ b hb
  simp only [Option.some.injEq, Addr.mk.injEq, and_true] at e
  obtain ⟨rfl, rfl⟩ := e
  exact ⟨g, o + lo, rfl, hg, by rw [Nat.add_assoc]; exact hcell⟩
theorem RU.front {g o c : Nat} (h : RU w (.slice (some ⟨g, o, none⟩) l.length c) l) (n c' : Nat) (hn : n ≤ l.length) (hc : n ≤ c') (hm : c' ≤ maxLen) :
    RU w (.slice (some ⟨g, o, none⟩) n c') (l.take n) := by
  have := h.sub 0 n c' (by omega) hc hm
  simpa using this
theorem RU.back {g o c : Nat} (h : RU w (.slice (some ⟨g, o, none⟩) l.length c) l) (lo c' : Nat) (hn : lo ≤ l.length) (hc : l.length - lo ≤ c') (hm : c' ≤ maxLen) :
    RU w (.slice (some ⟨g, o + lo, none⟩) (l.length - lo) c') (l.drop lo) := by
  have := h.sub lo (l.length - lo) c' (by omega) hc hm
  rwa [List.take_of_length_le (by rw [List.length_drop]; exact Nat.le_refl _)] at this
theorem cell_of_ru {g o n c : Nat} (h : RU w (.slice (some ⟨g, o, none⟩) n c) l) (i : Nat) (b : UInt64) (hb : l[i]? = some b) : w.cell? ⟨g, o + i, none⟩ = some (uv b) := by
  obtain ⟨p1, c1, e, h1, h2, h3, hr⟩ := h
  simp only [Value.slice.injEq] at e
  obtain ⟨e1, _, _⟩ := e
  subst e1
  obtain ⟨g', o', e, _, hc⟩ := hr i b hb
  simp only [Option.some.injEq, Addr.mk.injEq, and_true] at e
  obtain ⟨rfl, rfl⟩ := e
  exact hc
theorem RU.empty (w : World) (p : Option Addr) (c : Nat) (hm : c ≤ maxLen) : RU w (.slice p 0 c) [] := ⟨p, c, rfl, Nat.zero_le _, hm, Nat.zero_le _, fun i b h => by simp at h⟩
theorem RU.addr {p : Option Addr} {n c : Nat} (h : RU w (.slice p n c) l) (hl : l ≠ []) : ∃ g o, p = some ⟨g, o, none⟩ ∧ g < w.heap.size ∧ n = l.length ∧ n ≤ c ∧ c ≤ maxLen := by
  obtain ⟨p1, c1, e, h1, h2, h3, hr⟩ := h
  simp only [Value.slice.injEq] at e
  obtain ⟨rfl, rfl, rfl⟩ := e
  obtain ⟨b, r, rfl⟩ : ∃ b r, l = b :: r := by cases l with | nil => exact absurd rfl hl | cons b r => exact ⟨b, r, rfl⟩
  obtain ⟨g, o, rfl, hg, _⟩ := hr 0 b rfl
  exact ⟨g, o, rfl, hg, rfl, h1, h2⟩
/-- A block that was just laid. -/
theorem OU.new (w : World) (cs : Array Value) (l : List UInt64) (hc : cs = (l.map uv).toArray) (hl : l.length ≤ 17592186044416) (hB : B ≤ w.heap.size) :
    OU B (w.alloc (.cells cs 58)) (.slice (some ⟨w.heap.size, 0, none⟩) l.length l.length) l := by
  subst hc
  refine ⟨?_, hl⟩
  have := World.ownsRow_lit (e := 58) (size := 1) (base := B) w (l.map uv).toArray l.length hB (by simp only [maxLen]; omega) (by simp)
  simpa using this
theorem RU.wb (h : RU w v l) {b : Nat} (hne : l ≠ [] → v.ownBlock ≠ some b) (c : Array Value) (t : TypeId) : RU (w.wb b c t) v l :=
  h.keep (by simp) fun hl g o e _ => World.cell?_of_block (heap_wb_ne (fun e' => hne hl (by rw [e, e'])))
theorem OU.wb (h : OU B w v l) {b : Nat} (hne : v.ownBlock ≠ some b) (c : Array Value) (t : TypeId) : OU B (w.wb b c t) v l := by
  obtain ⟨⟨h0, h1 | ⟨g, cap, cur, rfl, hB, hg, r⟩⟩, hl⟩ := h
  · exact ⟨⟨h0, .inl h1⟩, hl⟩
  · exact ⟨⟨h0, .inr ⟨g, cap, cur, rfl, hB, (heap_wb_ne (fun e' => hne (by rw [e']; rfl))).trans hg, r⟩⟩, hl⟩
theorem OU.at_ (h : OU B w v l) (he : ∀ g, v.ownBlock = some g → w'.heap[g]? = w.heap[g]?) : OU B w' v l := by
  obtain ⟨⟨h0, h1 | ⟨g, cap, cur, rfl, hB, hg, r⟩⟩, hl⟩ := h
  · exact ⟨⟨h0, .inl h1⟩, hl⟩
  · exact ⟨⟨h0, .inr ⟨g, cap, cur, rfl, hB, (he g rfl).trans hg, r⟩⟩, hl⟩
theorem RU.lit (w : World) (cs : Array Value) (l : List UInt64) (n : Nat) (hc : cs = (l.map uv).toArray) (hn : n = l.length) (hl : l.length ≤ 17592186044416) :
    RU (w.alloc (.cells cs 58)) (.slice (some ⟨w.heap.size, 0, none⟩) n n) l := by
  subst hn
  exact (OU.new w cs l hc hl (Nat.le_refl _)).ru
end

theorem uy_ti : (Tryd.prog.info? 58).map (fun i => (i.zero, i.size, i.bytes)) = some (some (.int .u64 0), 1, 8) := by kernel_rfl
theorem uy_tu : Tryd.prog.underlying 22 = some (.slice 58) := by kernel_rfl
theorem uy_info : ∃ i, Tryd.prog.info? 58 = some i ∧ i.zero = some (.int .u64 0) ∧ i.size = 1 ∧ i.bytes = 8 := by
  have h := uy_ti
  cases hi : Tryd.prog.info? 58 with
  | none => rw [hi] at h; cases h
  | some i =>
    rw [hi] at h
    simp only [Option.map_some, Option.some.injEq, Prod.mk.injEq] at h
    exact ⟨i, rfl, h⟩

@[go_sem] theorem eql_words_nil (w : World) (a : Option Addr) (n c : Nat) : (binOp .eql 22 (.slice a n c) (.slice none 0 0)).run Tryd.prog w = .ok (.bool a.isNone) w := Lib.run_eql_slice_nil w _ _ a n c 0 0 uy_tu

set_option maxRecDepth 100000 in
theorem run_append_nothingU (w : World) {B : Nat} {v : Value} {l : List UInt64} (h : OU B w v l) (p : Option Addr) (c : Nat) :
    (Builtin.append_ #[22, 22] 22 #[v, .slice p 0 c]).run Tryd.prog w = .ok v w := by
  obtain ⟨i, hi, hz⟩ := uy_info
  obtain ⟨⟨h0, ⟨rfl, hn⟩ | ⟨g, cap, cur, rfl, hB, hg, hn, hc, hs, ht⟩⟩, hl⟩ := h
  · cases p <;> simp [Builtin.append_, run_underlying uy_tu, sizeOf, typeInfo, hi, Builtin.lenOf, Builtin.firstCells, loadCells, loadCellsFrom]
  · cases p <;> simp [Builtin.append_, run_underlying uy_tu, sizeOf, typeInfo, hi, Builtin.lenOf, Builtin.firstCells, loadCells, loadCellsFrom, hn, storeCells]

set_option maxRecDepth 100000 in
/-- append to a row of the call's own. -/
theorem run_append_OU {w : World} {B : Nat} {v x : Value} {l m : List UInt64} (h : OU B w v l) (hr : RU w x m) (hlen : l.length + m.length ≤ 17592186044416) (hB : B ≤ w.heap.size) :
    ∃ v' w', (Builtin.append_ #[22, 22] 22 #[v, x]).run Tryd.prog w = .ok v' w' ∧ OU B w' v' (l ++ m) ∧ w.grownBy w' v.ownBlock ∧ (v'.ownBlock = v.ownBlock ∨ v'.ownBlock = some w.heap.size) := by
  obtain ⟨i, hi, hz⟩ := uy_info
  obtain ⟨p, c, rfl, h1, h2, h3, hc⟩ := hr
  by_cases hm : m = []
  · subst hm
    exact ⟨v, w, run_append_nothingU w h p c, by simpa using h, World.grownBy.refl w _, .inl rfl⟩
  · obtain ⟨b, r, rfl⟩ : ∃ b r, m = b :: r := by cases m with | nil => exact absurd rfl hm | cons b r => exact ⟨b, r, rfl⟩
    obtain ⟨g, o, rfl, hg, _⟩ := hc 0 b rfl
    obtain ⟨v', w', hrun, ho, hgr, _, hat⟩ := run_append_own_at (P := Tryd.prog) w B 22 22 58 i (.int .u64 0) 1 8 uy_tu hi hz.1 hz.2.1 hz.2.2 rfl (by decide) v l.length (l.map uv) h.1 ⟨g, o, none⟩ (b :: r).length c ((b :: r).map uv) (by simp)
      (fun j u hj => by
        rw [List.getElem?_map] at hj
        cases hb : (b :: r)[j]? with
        | none => rw [hb] at hj; cases hj
        | some b' =>
          rw [hb] at hj
          cases hj
          obtain ⟨g', o', e, _, hcell⟩ := hc j b' hb
          injection e with e
          injection e with e1 e2
          subst e1 e2
          rw [add_flat]
          exact hcell)
      (fun u hu => by
        obtain ⟨b', _, rfl⟩ := List.mem_map.1 hu
        rfl) (by simp only [maxLen]; omega) (by omega) hB
    refine ⟨v', w', hrun, ⟨?_, by simpa using hlen⟩, hgr, hat⟩
    rw [List.length_append, List.map_append]
    exact ho

set_option maxRecDepth 100000 in
/-- append at the operation. -/
theorem wpList_append_OU {w : World} {ops : Array Oper} {rest : List Oper} {o : Oper} {a : Act} {Q : Exit → Act → World → Prop} (hgd : o.guard = none) (s x : Operand)
    (ho : o.op = .call { callee := .builtin .append, args := #[s, x], argTypes := #[22, 22] }) (hty : o.type = 22) {B : Nat} {v xv : Value} {l m : List UInt64}
    (hs : a.eval s = v) (hx : a.eval x = xv) (h : OU B w v l) (hr : RU w xv m) (hlen : l.length + m.length ≤ 17592186044416) (hB : B ≤ w.heap.size)
    (hk : ∀ v' w', OU B w' v' (l ++ m) → w.grownBy w' v.ownBlock → (v'.ownBlock = v.ownBlock ∨ v'.ownBlock = some w.heap.size) → wpList Tryd.prog ops Q rest (a.put o.dst v') w') : wpList Tryd.prog ops Q (o :: rest) a w := by
  refine wpList_plain hgd fun K hK => ?_
  obtain ⟨v', w', hrun, h2, h3, h4⟩ := run_append_OU h hr hlen hB
  unfold Oper.wp execOp
  simp only [ho, hty, resolve, invoke, builtin, Sem.run_bind, Sem.run_pure, Result.andThen_ok, List.map_toArray, List.map_cons, List.map_nil, hs, hx, hrun]
  exact hK _ _ (hk v' w' h2 h3 h4)
end Go.Proofs.YtckbckdaffdjmaaDoor

/- How many bits are set: the library's way of reckoning it, byte by byte: plain arithmetic. -/
namespace Go.Proofs.YtckbckdaffdjmaaDoor
set_option linter.unusedVariables false
set_option maxRecDepth 100000
namespace Bm
/-- The number of ones among the lowest k bits. -/
def pop : Nat → Nat → Nat
  | 0, _ => 0
  | k + 1, x => x % 2 + pop k (x / 2)
theorem pop_zero : ∀ k, pop k 0 = 0
  | 0 => rfl
  | k + 1 => by rw [pop, Nat.zero_div, pop_zero k]
theorem pop_le : ∀ k x, pop k x ≤ k
  | 0, _ => Nat.le_refl _
  | k + 1, x => by have := pop_le k (x / 2); rw [pop]; omega
theorem pop_add : ∀ (k j x : Nat), pop (k + j) x = pop k x + pop j (x / 2 ^ k)
  | 0, j, x => by simp [pop]
  | k + 1, j, x => by
    rw [show k + 1 + j = (k + j) + 1 by omega, pop, pop, pop_add k j (x / 2), Nat.div_div_eq_div_mul, Nat.pow_succ, Nat.mul_comm 2 (2 ^ k)]
    omega
theorem pop_mod : ∀ (k x : Nat), pop k (x % 2 ^ k) = pop k x
  | 0, x => rfl
  | k + 1, x => by
    rw [pop, pop, Nat.pow_succ, Nat.mod_mul_left_mod]
    have h : x % (2 ^ k * 2) / 2 = (x / 2) % 2 ^ k := by rw [Nat.mul_comm, Nat.mod_mul_right_div_self]
    rw [h, pop_mod k]
/-- A word's mask, byte by byte. -/
def rep (m : Nat) : Nat → Nat
  | 0 => 0
  | k + 1 => m + 256 * rep m k
theorem and_split {a c : Nat} (ha : a < 256) (hc : c < 256) (b d : Nat) : (a + 256 * b) &&& (c + 256 * d) = (a &&& c) + 256 * (b &&& d) := by
  have hac : a &&& c < 2 ^ 8 := Nat.and_lt_two_pow _ hc
  apply Nat.eq_of_testBit_eq
  intro j
  rw [Nat.testBit_and, show a + 256 * b = 2 ^ 8 * b + a by omega, show c + 256 * d = 2 ^ 8 * d + c by omega, show (a &&& c) + 256 * (b &&& d) = 2 ^ 8 * (b &&& d) + (a &&& c) by omega,
    Nat.testBit_two_pow_mul_add b ha j, Nat.testBit_two_pow_mul_add d hc j, Nat.testBit_two_pow_mul_add (b &&& d) hac j]
  split
  · rw [Nat.testBit_and]
  · rw [Nat.testBit_and]
def g1 (a : Nat) : Nat := (a / 2 &&& 85) + (a &&& 85)
def g2 (a : Nat) : Nat := (a / 4 &&& 51) + (a &&& 51)
def g3 (a : Nat) : Nat := (a / 16 + a) &&& 15
def y1 (k x : Nat) : Nat := (x / 2 &&& rep 85 k) + (x &&& rep 85 k)
def y2 (k x : Nat) : Nat := (x / 4 &&& rep 51 k) + (x &&& rep 51 k)
def y3 (k x : Nat) : Nat := (x / 16 + x) &&& rep 15 k
theorem g_pop : ∀ a, a < 256 → g3 (g2 (g1 a)) = pop 8 a := by decide
theorem g_bound : ∀ a, a < 256 → g1 a < 256 ∧ g2 (g1 a) ≤ 68 ∧ g2 (g1 a) % 16 ≤ 4 := by decide
theorem m1 : ∀ a, a < 256 → ∀ t, t < 2 → (a / 2 + 128 * t) &&& 85 = a / 2 &&& 85 := by decide
theorem m2 : ∀ a, a < 256 → ∀ t, t < 4 → (a / 4 + 64 * t) &&& 51 = a / 4 &&& 51 := by decide
theorem y1_step {a : Nat} (ha : a < 256) (k r : Nat) : y1 (k + 1) (a + 256 * r) = g1 a + 256 * y1 k r := by
  unfold y1 g1
  rw [rep, and_split ha (by decide), show (a + 256 * r) / 2 = (a / 2 + 128 * (r % 2)) + 256 * (r / 2) by omega, and_split (by omega) (by decide), m1 a ha _ (by omega)]
  omega
theorem y2_step {a : Nat} (ha : a < 256) (k r : Nat) : y2 (k + 1) (a + 256 * r) = g2 a + 256 * y2 k r := by
  unfold y2 g2
  rw [rep, and_split ha (by decide), show (a + 256 * r) / 4 = (a / 4 + 64 * (r % 4)) + 256 * (r / 4) by omega, and_split (by omega) (by decide), m2 a ha _ (by omega)]
  omega
theorem y3_step {a : Nat} (ha : a ≤ 68) (k r : Nat) (hr : r % 16 ≤ 4) : y3 (k + 1) (a + 256 * r) = g3 a + 256 * y3 k r := by
  unfold y3 g3
  rw [rep, show (a + 256 * r) / 16 + (a + 256 * r) = (a / 16 + a + 16 * (r % 16)) + 256 * (r / 16 + r) by omega, and_split (by omega) (by decide)]
  have e : ∀ z, z &&& 15 = z % 16 := fun z => Nat.and_two_pow_sub_one_eq_mod z 4
  rw [e, e]
  omega
/-- The bytes of the third step, each the number of its ones. -/
def bytesP : Nat → Nat → Nat
  | 0, _ => 0
  | k + 1, x => pop 8 (x % 256) + 256 * bytesP k (x / 256)
theorem y_low (k x : Nat) : y2 k (y1 k x) % 16 ≤ 4 := by
  cases k with
  | zero => simp [y2, rep]
  | succ k =>
    rw [show x = x % 256 + 256 * (x / 256) by omega, y1_step (by omega), y2_step (g_bound _ (by omega)).1]
    have := (g_bound (x % 256) (by omega)).2.2
    omega
theorem y_all : ∀ (k x : Nat), y3 k (y2 k (y1 k x)) = bytesP k x
  | 0, x => by simp [y3, rep, bytesP]
  | k + 1, x => by
    obtain ⟨b1, b2, b3⟩ := g_bound (x % 256) (by omega)
    rw [show y1 (k + 1) x = y1 (k + 1) (x % 256 + 256 * (x / 256)) by rw [show x % 256 + 256 * (x / 256) = x by omega], y1_step (by omega), y2_step b1, y3_step b2 k _ (y_low k _), g_pop _ (by omega), y_all k, bytesP]
/-- What OnesCount64 reckons. -/
def ones (x : Nat) : Nat :=
  let z := y3 8 (y2 8 (y1 8 x))
  let z1 := z + z / 256
  let z2 := z1 + z1 / 65536
  let z3 := z2 + z2 / 4294967296
  z3 % 128
theorem dv (m a q : Nat) (h : a < m) : (a + m * q) / m = q := by rw [Nat.add_mul_div_left _ _ (by omega), Nat.div_eq_of_lt h, Nat.zero_add]
theorem ff1 (d0 d1 d2 d3 d4 d5 d6 d7 : Nat) : ((d0) + 256 * ((d1) + 256 * ((d2) + 256 * ((d3) + 256 * ((d4) + 256 * ((d5) + 256 * ((d6) + 256 * ((d7) + 256 * (0))))))))) + ((d1) + 256 * ((d2) + 256 * ((d3) + 256 * ((d4) + 256 * ((d5) + 256 * ((d6) + 256 * ((d7) + 256 * (0)))))))) = ((d0 + d1) + 256 * ((d1 + d2) + 256 * (0))) + 65536 * ((d2 + d3) + 256 * ((d3 + d4) + 256 * ((d4 + d5) + 256 * ((d5 + d6) + 256 * ((d6 + d7) + 256 * ((d7) + 256 * (0))))))) := by omega
theorem ff2 (d0 d1 d2 d3 d4 d5 d6 d7 : Nat) : ((d0 + d1) + 256 * ((d1 + d2) + 256 * (0))) + 65536 * ((d2 + d3) + 256 * ((d3 + d4) + 256 * ((d4 + d5) + 256 * ((d5 + d6) + 256 * ((d6 + d7) + 256 * ((d7) + 256 * (0))))))) + ((d2 + d3) + 256 * ((d3 + d4) + 256 * ((d4 + d5) + 256 * ((d5 + d6) + 256 * ((d6 + d7) + 256 * ((d7) + 256 * (0))))))) = ((d0 + d1 + d2 + d3) + 256 * ((d1 + d2 + d3 + d4) + 256 * ((d2 + d3 + d4 + d5) + 256 * ((d3 + d4 + d5 + d6) + 256 * (0))))) + 4294967296 * ((d4 + d5 + d6 + d7) + 256 * ((d5 + d6 + d7) + 256 * ((d6 + d7) + 256 * ((d7) + 256 * (0))))) := by omega
theorem ff3 (d0 d1 d2 d3 d4 d5 d6 d7 : Nat) : ((d0 + d1 + d2 + d3) + 256 * ((d1 + d2 + d3 + d4) + 256 * ((d2 + d3 + d4 + d5) + 256 * ((d3 + d4 + d5 + d6) + 256 * (0))))) + 4294967296 * ((d4 + d5 + d6 + d7) + 256 * ((d5 + d6 + d7) + 256 * ((d6 + d7) + 256 * ((d7) + 256 * (0))))) + ((d4 + d5 + d6 + d7) + 256 * ((d5 + d6 + d7) + 256 * ((d6 + d7) + 256 * ((d7) + 256 * (0))))) = (d0 + d1 + d2 + d3 + d4 + d5 + d6 + d7) + 256 * ((d1 + d2 + d3 + d4 + d5 + d6 + d7) + 256 * ((d2 + d3 + d4 + d5 + d6 + d7) + 256 * ((d3 + d4 + d5 + d6 + d7) + 256 * ((d4 + d5 + d6 + d7) + 256 * ((d5 + d6 + d7) + 256 * ((d6 + d7) + 256 * ((d7) + 256 * (0)))))))) := by omega
theorem bb0 {d0 : Nat} (h : d0 ≤ 8) : d0 < 256 := by omega
theorem bb1 {d0 d1 d2 : Nat} (h0 : d0 ≤ 8) (h1 : d1 ≤ 8) (h2 : d2 ≤ 8) : (d0 + d1) + 256 * ((d1 + d2) + 256 * (0)) < 65536 := by omega
theorem bb2 {d0 d1 d2 d3 d4 d5 d6 : Nat} (h0 : d0 ≤ 8) (h1 : d1 ≤ 8) (h2 : d2 ≤ 8) (h3 : d3 ≤ 8) (h4 : d4 ≤ 8) (h5 : d5 ≤ 8) (h6 : d6 ≤ 8) : (d0 + d1 + d2 + d3) + 256 * ((d1 + d2 + d3 + d4) + 256 * ((d2 + d3 + d4 + d5) + 256 * ((d3 + d4 + d5 + d6) + 256 * (0)))) < 4294967296 := by omega
theorem bb3 (s r : Nat) (h : s < 128) : (s + 256 * r) % 128 = s := by omega
theorem fold8 (d0 d1 d2 d3 d4 d5 d6 d7 : Nat) (h0 : d0 ≤ 8) (h1 : d1 ≤ 8) (h2 : d2 ≤ 8) (h3 : d3 ≤ 8) (h4 : d4 ≤ 8) (h5 : d5 ≤ 8) (h6 : d6 ≤ 8) (h7 : d7 ≤ 8) : ((d0) + 256 * ((d1) + 256 * ((d2) + 256 * ((d3) + 256 * ((d4) + 256 * ((d5) + 256 * ((d6) + 256 * ((d7) + 256 * (0))))))))) + ((d0) + 256 * ((d1) + 256 * ((d2) + 256 * ((d3) + 256 * ((d4) + 256 * ((d5) + 256 * ((d6) + 256 * ((d7) + 256 * (0))))))))) / 256 + (((d0) + 256 * ((d1) + 256 * ((d2) + 256 * ((d3) + 256 * ((d4) + 256 * ((d5) + 256 * ((d6) + 256 * ((d7) + 256 * (0))))))))) + ((d0) + 256 * ((d1) + 256 * ((d2) + 256 * ((d3) + 256 * ((d4) + 256 * ((d5) + 256 * ((d6) + 256 * ((d7) + 256 * (0))))))))) / 256) / 65536 + (((d0) + 256 * ((d1) + 256 * ((d2) + 256 * ((d3) + 256 * ((d4) + 256 * ((d5) + 256 * ((d6) + 256 * ((d7) + 256 * (0))))))))) + ((d0) + 256 * ((d1) + 256 * ((d2) + 256 * ((d3) + 256 * ((d4) + 256 * ((d5) + 256 * ((d6) + 256 * ((d7) + 256 * (0))))))))) / 256 + (((d0) + 256 * ((d1) + 256 * ((d2) + 256 * ((d3) + 256 * ((d4) + 256 * ((d5) + 256 * ((d6) + 256 * ((d7) + 256 * (0))))))))) + ((d0) + 256 * ((d1) + 256 * ((d2) + 256 * ((d3) + 256 * ((d4) + 256 * ((d5) + 256 * ((d6) + 256 * ((d7) + 256 * (0))))))))) / 256) / 65536) / 4294967296 = (d0 + d1 + d2 + d3 + d4 + d5 + d6 + d7) + 256 * ((d1 + d2 + d3 + d4 + d5 + d6 + d7) + 256 * ((d2 + d3 + d4 + d5 + d6 + d7) + 256 * ((d3 + d4 + d5 + d6 + d7) + 256 * ((d4 + d5 + d6 + d7) + 256 * ((d5 + d6 + d7) + 256 * ((d6 + d7) + 256 * ((d7) + 256 * (0)))))))) := by
  rw [dv 256 d0 ((d1) + 256 * ((d2) + 256 * ((d3) + 256 * ((d4) + 256 * ((d5) + 256 * ((d6) + 256 * ((d7) + 256 * (0)))))))) (bb0 h0), ff1, dv 65536 _ _ (bb1 h0 h1 h2), ff2, dv 4294967296 _ _ (bb2 h0 h1 h2 h3 h4 h5 h6), ff3]
theorem ones_pop (x : Nat) : ones x = pop 64 x := by
  unfold ones
  simp only [y_all, bytesP]
  have e : pop 64 x = pop 8 (x % 256) + pop 8 (x / 256 % 256) + pop 8 (x / 256 / 256 % 256) + pop 8 (x / 256 / 256 / 256 % 256) + pop 8 (x / 256 / 256 / 256 / 256 % 256) + pop 8 (x / 256 / 256 / 256 / 256 / 256 % 256) + pop 8 (x / 256 / 256 / 256 / 256 / 256 / 256 % 256) + pop 8 (x / 256 / 256 / 256 / 256 / 256 / 256 / 256 % 256) := by
    rw [show 64 = 8 + (8 + (8 + (8 + (8 + (8 + (8 + 8)))))) by rfl]
    simp only [pop_add, show (2 : Nat) ^ 8 = 256 by rfl]
    have p : ∀ z, pop 8 (z % 256) = pop 8 z := pop_mod 8
    simp only [p]
    omega
  rw [e]
  have b : ∀ z, pop 8 z ≤ 8 := pop_le 8
  generalize hd0 : pop 8 (x % 256) = d0
  generalize hd1 : pop 8 (x / 256 % 256) = d1
  generalize hd2 : pop 8 (x / 256 / 256 % 256) = d2
  generalize hd3 : pop 8 (x / 256 / 256 / 256 % 256) = d3
  generalize hd4 : pop 8 (x / 256 / 256 / 256 / 256 % 256) = d4
  generalize hd5 : pop 8 (x / 256 / 256 / 256 / 256 / 256 % 256) = d5
  generalize hd6 : pop 8 (x / 256 / 256 / 256 / 256 / 256 / 256 % 256) = d6
  generalize hd7 : pop 8 (x / 256 / 256 / 256 / 256 / 256 / 256 / 256 % 256) = d7
  have c0 := hd0 ▸ b _
  have c1 := hd1 ▸ b _
  have c2 := hd2 ▸ b _
  have c3 := hd3 ▸ b _
  have c4 := hd4 ▸ b _
  have c5 := hd5 ▸ b _
  have c6 := hd6 ▸ b _
  have c7 := hd7 ▸ b _
  clear hd0 hd1 hd2 hd3 hd4 hd5 hd6 hd7 b e
  rw [fold8 d0 d1 d2 d3 d4 d5 d6 d7 c0 c1 c2 c3 c4 c5 c6 c7]
  exact bb3 _ _ (by omega)
end Bm
end Go.Proofs.YtckbckdaffdjmaaDoor
