/- A base for the rows of this seat: a law's row follows from its walk (the call returns true and changes nothing that was there); the arguments are read as flat lists of cells. -/
import Derived.Test.YtckbckdaffdjmaaDoorRows
import Derived.WalkKit
import Derived.ProofKit
import Derived.OpenShut
import Derived.ShutString
import Derived.ChangeOld
import Derived.Below
import Derived.Carry
import Derived.SizedLaws
import Derived.Deep.Slices
import Derived.Lib.Hide
namespace Go.Proofs.YtckbckdaffdjmaaDoor
open Go.ChangeShapes Go.WideShapes Go.ChangeAt Go.RowKit

section
variable {H : Type} {enc : TypeId × Value → H} {P : Program}

/-- All arguments read behind the call as they read before. -/
theorem trodAll_below (hl : laidOutB P = true) {W W' : World} (hb : Below W.heap.size W W') :
    ∀ (ts : List TypeId) (vs : List Value) (ds : List (DataW H)) (ps : List MemPlace), (ts.all fun t => P.readableRec t && decide (t < P.types.size)) = true →
      DataW.TrodAll enc P W 0 (fun _ => true) true ts vs ds ps → (∀ x ∈ ps, x.block < W.heap.size) →
      DataW.TrodAll enc P W' 0 (fun b => decide (b < W.heap.size)) true ts vs ds ps
  | [], [], [], ps, _, h, _ => h
  | t :: ts, v :: vs, d :: ds, ps, hr, h, hlt => by
    obtain ⟨p, q, h1, h2, rfl⟩ := h
    simp only [List.all_cons, Bool.and_eq_true, decide_eq_true_eq] at hr
    refine ⟨p, q, Below.trod hl hr.1.1 hr.1.2 h1 hb (fun x hx => hlt x (by simp [hx])), ?_, rfl⟩
    exact trodAll_below hl hb ts vs ds q (by simpa using hr.2) h2 (fun x hx => hlt x (by simp [hx]))
  | [], _ :: _, _, _, _, h, _ => h.elim
  | [], [], _ :: _, _, _, h, _ => h.elim
  | _ :: _, [], _, _, _, h, _ => h.elim
  | _ :: _, _ :: _, [], _, _, h, _ => h.elim

theorem trodAll_length {W : World} {base : Nat} {sp : Nat → Bool} {held : Bool} : ∀ (ts : List TypeId) (vs : List Value) (ds : List (DataW H)) (ps : List MemPlace),
    DataW.TrodAll enc P W base sp held ts vs ds ps → ds.length = ts.length
  | [], [], [], _, _ => rfl
  | t :: ts, v :: vs, d :: ds, ps, h => by
    obtain ⟨p, q, _, h2, _⟩ := h
    simp [trodAll_length ts vs ds q h2]
  | [], _ :: _, _, _, h => h.elim
  | [], [], _ :: _, _, h => h.elim
  | _ :: _, [], _, _, h => h.elim
  | _ :: _, _ :: _, [], _, h => h.elim

/-- A law's post, of one walk: it returned true, and below nothing has turned. -/
theorem law_post (hl : laidOutB P = true) {f : Func} {s : ChangeSpec} {W W' : World} {args : Array Value} {ds : List (DataW H)} {before : List MemPlace} {tb : TypeId}
    (hv : s.vars = []) (hres : f.resultTypes = #[tb]) (htb : P.underlying tb = some .bool)
    (hrd : (f.params.toList.all fun t => P.readableRec t && decide (t < P.types.size)) = true)
    (hfn : ∀ l : List (DataW H), l.length = f.params.toList.length → s.fn H l = { results := [.lit (.bool true)], args := l })
    (hW : DataW.Whole enc P f.params.toList s.vars false W args.toList ds [] before) (hb : Below W.heap.size W W') :
    s.post enc P f false true false false W args (.bool true) W' := by
  have hW' := hW
  obtain ⟨p, q, hA, hV, rfl, hfz, hnd⟩ := hW
  have hlen := trodAll_length _ _ _ _ hA
  have e := hfn ds hlen
  have hq : q = [] := by rw [hv] at hV; exact hV
  subst hq
  refine ⟨ds, [], _, [], p, [], hW', ?_, ?_, ?_, hb.frame _, fun h => by cases h⟩
  · rw [List.append_nil, e, hres]
    exact trodAll_mk1 (shut_bool htb true)
  · rw [List.append_nil, e]
    exact trodAll_below hl hb _ _ _ _ hrd hA (fun x hx => by simpa using hW'.lt x (by simp [hx]))
  · rw [List.append_nil, e, hv]
    exact rfl
end

theorem seat_own : ownKnob Tryd.prog.godebug = none := by kernel_rfl
theorem seat_laid : laidOutB Tryd.prog = true := by kernel_rfl

/-- What a flat cell of an argument is. -/
inductive Leaf where
  | int (k : IntKind)
  | bool
  | str
  | other (t : TypeId)

def fieldsLie (P : Program) : List Field → Nat → Bool
  | [], _ => true
  | f :: r, n => f.offset == n && fieldsLie P r (n + P.cellsOf f.type)
def fieldsSum (P : Program) : List Field → Nat
  | [] => 0
  | f :: r => P.cellsOf f.type + fieldsSum P r

mutual
def leaves (P : Program) : Nat → TypeId → Option (List Leaf)
  | 0, _ => none
  | n + 1, t =>
    match P.underlying t with
    | some .bool => some [.bool]
    | some (.int k) => some [.int k]
    | some .string => some [.str]
    | some (.struct fs) => if fieldsLie P fs.toList 0 && fieldsSum P fs.toList == P.cellsOf t then leavesAll P n fs.toList else none
    | some (.array m e) => if m * P.cellsOf e == P.cellsOf t then (leaves P n e).map fun l => (List.replicate m l).flatten else none
    | some (.slice _) => some [.other t]
    | some (.pointer _) => some [.other t]
    | _ => none
def leavesAll (P : Program) : Nat → List Field → Option (List Leaf)
  | 0, _ => none
  | _ + 1, [] => some []
  | n + 1, f :: r =>
    match leaves P n f.type, leavesAll P n r with
    | some a, some b => some (a ++ b)
    | _, _ => none
end

section
variable {H : Type} {enc : TypeId × Value → H} {P : Program} {w : World} {base : Nat} {spare : Nat → Bool} {held : Bool}

/-- A cell is what its leaf says. -/
def LeafOk (enc : TypeId × Value → H) (P : Program) (w : World) (base : Nat) (spare : Nat → Bool) (held : Bool) : Leaf → Value → Prop
  | .int k, v => ∃ n, v = .int k n ∧ (Lit.int k n).wf = true
  | .bool, v => ∃ b, v = .bool b
  | .str, v => ∃ s, v = .string s ∧ s.size ≤ maxLen
  | .other t, v => ∃ fuel x, DataW.trod enc P w base spare held fuel t [v] = some x

inductive LeavesOk (enc : TypeId × Value → H) (P : Program) (w : World) (base : Nat) (spare : Nat → Bool) (held : Bool) : List Leaf → List Value → Prop
  | nil : LeavesOk enc P w base spare held [] []
  | cons {l : Leaf} {v : Value} {ls : List Leaf} {vs : List Value} : LeafOk enc P w base spare held l v → LeavesOk enc P w base spare held ls vs → LeavesOk enc P w base spare held (l :: ls) (v :: vs)

theorem LeavesOk.append {a b : List Leaf} {u v : List Value} (h : LeavesOk enc P w base spare held a u) (k : LeavesOk enc P w base spare held b v) : LeavesOk enc P w base spare held (a ++ b) (u ++ v) := by
  induction h with
  | nil => exact k
  | cons h1 _ ih => exact .cons h1 ih

theorem LeavesOk.uncons {l : Leaf} {ls : List Leaf} {cs : List Value} (h : LeavesOk enc P w base spare held (l :: ls) cs) : ∃ v vs, cs = v :: vs ∧ LeafOk enc P w base spare held l v ∧ LeavesOk enc P w base spare held ls vs := by
  cases h with
  | cons a b => exact ⟨_, _, rfl, a, b⟩
theorem LeavesOk.unnil {cs : List Value} (h : LeavesOk enc P w base spare held [] cs) : cs = [] := by cases h; rfl
theorem LeavesOk.int {k : IntKind} {ls : List Leaf} {cs : List Value} (h : LeavesOk enc P w base spare held (.int k :: ls) cs) : ∃ n vs, cs = .int k n :: vs ∧ (Lit.int k n).wf = true ∧ LeavesOk enc P w base spare held ls vs := by
  obtain ⟨v, vs, rfl, ⟨n, rfl, hn⟩, r⟩ := h.uncons
  exact ⟨n, vs, rfl, hn, r⟩
theorem LeavesOk.bool {ls : List Leaf} {cs : List Value} (h : LeavesOk enc P w base spare held (.bool :: ls) cs) : ∃ b vs, cs = .bool b :: vs ∧ LeavesOk enc P w base spare held ls vs := by
  obtain ⟨v, vs, rfl, ⟨n, rfl⟩, r⟩ := h.uncons
  exact ⟨n, vs, rfl, r⟩
theorem LeavesOk.other {t : TypeId} {ls : List Leaf} {cs : List Value} (h : LeavesOk enc P w base spare held (.other t :: ls) cs) : ∃ v vs, cs = v :: vs ∧ (∃ fuel x, DataW.trod enc P w base spare held fuel t [v] = some x) ∧ LeavesOk enc P w base spare held ls vs := by
  obtain ⟨v, vs, rfl, hv, r⟩ := h.uncons
  exact ⟨v, vs, rfl, hv, r⟩

theorem trod_length {fuel : Nat} {t : TypeId} {cs : List Value} {x : DataW H × List MemPlace} (h : DataW.trod enc P w base spare held fuel t cs = some x) :
    (∃ v, cs = [v]) ∨ (∃ fs, P.underlying t = some (.struct fs)) ∨ (∃ m e, P.underlying t = some (.array m e)) := by
  cases fuel with
  | zero => simp [DataW.trod] at h
  | succ n =>
    unfold DataW.trod at h
    split at h <;> first
      | exact .inl ⟨_, rfl⟩
      | (rename_i hs; exact .inr (.inl ⟨_, hs⟩))
      | (rename_i hs; exact .inr (.inr ⟨_, _, hs⟩))
      | cases h

mutual
theorem leaves_ok : ∀ (n : Nat) (t : TypeId) (ls : List Leaf) (fuel : Nat) (cs : List Value) (x : DataW H × List MemPlace), leaves P n t = some ls →
    DataW.trod enc P w base spare held fuel t cs = some x → LeavesOk enc P w base spare held ls cs
  | 0, _, _, _, _, _, h, _ => by simp [leaves] at h
  | n + 1, t, ls, fuel, cs, x, h, ht => by
    unfold leaves at h
    split at h
    · rename_i hu
      cases h
      obtain ⟨b, rfl, _⟩ := DataW.trod_bool hu ht
      exact .cons ⟨b, rfl⟩ .nil
    · rename_i k hu
      cases h
      obtain ⟨m, rfl, _, hw⟩ := DataW.trod_int hu ht
      exact .cons ⟨m, rfl, hw⟩ .nil
    · rename_i hu
      cases h
      obtain ⟨s, rfl, _, hw⟩ := DataW.trod_string hu ht
      exact .cons ⟨s, rfl, hw⟩ .nil
    · rename_i fs hu
      split at h
      · rename_i hc
        simp only [Bool.and_eq_true, beq_iff_eq] at hc
        obtain ⟨xs, m, rfl, rfl, hl, hxl, hf⟩ := DataW.trod_struct hu ht
        refine leavesAll_ok n fs.toList ls m cs 0 h hc.1 ?_ ?_
        · rw [Nat.zero_add, hc.2]; exact hl
        · intro i f hif
          have hi : fs[i]? = some f := by simpa using hif
          have hlt : i < xs.length := by
            have := (Array.getElem?_eq_some_iff.1 hi).1
            omega
          exact ⟨xs[i], by rw [hf i f hi]; exact List.getElem?_eq_getElem hlt⟩
      · cases h
    · rename_i m e hu
      split at h
      · rename_i hc
        simp only [beq_iff_eq] at hc
        cases hle : leaves P n e with
        | none => rw [hle] at h; cases h
        | some l =>
          rw [hle] at h
          simp only [Option.map_some, Option.some.injEq] at h
          subst h
          obtain ⟨xs, fu, rfl, hx1, hlen, hn3, hel⟩ := DataW.trod_array hu ht
          have key : ∀ k, k ≤ m → LeavesOk enc P w base spare held (List.replicate k l).flatten (cs.take (k * P.cellsOf e)) := by
            intro k
            induction k with
            | zero => intro _; simp; exact .nil
            | succ k ih =>
              intro hk
              have h1 := ih (by omega)
              have hk' : k < xs.length := by omega
              have h2 := hel k (by omega)
              rw [List.getElem?_eq_getElem hk'] at h2
              have h3 := leaves_ok n e l fu _ _ hle h2
              have e1 : (List.replicate (k + 1) l).flatten = (List.replicate k l).flatten ++ l := by
                rw [List.replicate_succ', List.flatten_append]; simp
              have e2 : cs.take ((k + 1) * P.cellsOf e) = cs.take (k * P.cellsOf e) ++ (cs.drop (k * P.cellsOf e)).take (P.cellsOf e) := by
                rw [Nat.succ_mul, List.take_add]
              rw [e1, e2]
              exact h1.append h3
          have hm := key m (Nat.le_refl _)
          rw [hc, ← hlen, List.take_length] at hm
          exact hm
      · cases h
    · rename_i e hu
      cases h
      rcases trod_length ht with ⟨v, rfl⟩ | ⟨fs, h2⟩ | ⟨m, e', h2⟩
      · exact .cons ⟨fuel, x, ht⟩ .nil
      · rw [hu] at h2; cases h2
      · rw [hu] at h2; cases h2
    · rename_i e hu
      cases h
      rcases trod_length ht with ⟨v, rfl⟩ | ⟨fs, h2⟩ | ⟨m, e', h2⟩
      · exact .cons ⟨fuel, x, ht⟩ .nil
      · rw [hu] at h2; cases h2
      · rw [hu] at h2; cases h2
    · cases h
theorem leavesAll_ok : ∀ (n : Nat) (fs : List Field) (ls : List Leaf) (fuel : Nat) (cs : List Value) (at_ : Nat), leavesAll P n fs = some ls → fieldsLie P fs at_ = true → cs.length = at_ + fieldsSum P fs →
    (∀ (i : Nat) (f : Field), fs[i]? = some f → ∃ x, DataW.trod enc P w base spare held fuel f.type ((cs.drop f.offset).take (P.cellsOf f.type)) = some x) → LeavesOk enc P w base spare held ls (cs.drop at_)
  | 0, _, _, _, _, _, h, _, _, _ => by simp [leavesAll] at h
  | n + 1, [], ls, fuel, cs, at_, h, _, hs, _ => by
    simp only [leavesAll, Option.some.injEq] at h
    subst h
    rw [List.drop_of_length_le (by simp [fieldsSum] at hs; omega)]
    exact .nil
  | n + 1, f :: r, ls, fuel, cs, at_, h, hlie, hs, hf => by
    simp only [leavesAll] at h
    split at h
    · rename_i a b ha hb
      cases h
      simp only [fieldsLie, Bool.and_eq_true, beq_iff_eq] at hlie
      obtain ⟨x, hx⟩ := hf 0 f rfl
      rw [hlie.1] at hx
      have h1 := leaves_ok n f.type a fuel _ x ha hx
      have h2 := leavesAll_ok n r b fuel cs (at_ + P.cellsOf f.type) hb hlie.2 (by simp [fieldsSum] at hs; omega) (fun i g hg => hf (i + 1) g (by simpa using hg))
      have e : cs.drop at_ = (cs.drop at_).take (P.cellsOf f.type) ++ cs.drop (at_ + P.cellsOf f.type) := by
        rw [← List.drop_drop, List.take_append_drop]
      rw [e]
      exact h1.append h2
    · cases h
end

/-- An argument that is a struct or an array: its cells, leaf by leaf. -/
theorem open_leaves {W : World} {b : Nat} {t : TypeId} {v : Value} {d : DataW H} {ps : List MemPlace} {ls : List Leaf} {n : Nat} (hls : leaves P n t = some ls)
    (hst : (match P.underlying t with | some (.struct _) | some (.array _ _) => true | _ => false) = true)
    (hv : Value.okWide P W .any b t v) (h : DataW.Trod enc P W base spare held t v d ps) : ∃ cs, v = .agg cs.toArray ∧ LeavesOk enc P W base spare held ls cs := by
  obtain ⟨fuel, hf⟩ := h
  unfold Value.okWide at hv
  split at hst
  · rename_i fs hu
    rw [hu] at hv
    obtain ⟨cs, rfl, _, _⟩ := hv
    exact ⟨cs.toList, by simp, leaves_ok n t ls fuel _ _ hls hf⟩
  · rename_i m e hu
    rw [hu] at hv
    obtain ⟨cs, rfl, _, _⟩ := hv
    exact ⟨cs.toList, by simp, leaves_ok n t ls fuel _ _ hls hf⟩
  · cases hst
end
end Go.Proofs.YtckbckdaffdjmaaDoor
