/- Steps of RegP under guards; and the families 'all that lay at the beginning lies so, and F of the writers' values'. -/
import Derived.Test.YtckbckdaffdjmaaDoorRegP
namespace Go.Proofs.YtckbckdaffdjmaaDoor
open Go.RowKit
set_option linter.unusedVariables false
namespace Ph
section
variable {P : Program} {ops : Array Oper} {RL : List Value → World → Prop} {ws : Nat → Bool} {Lq : List Value → Act → Prop} {i : Nat} {rest : List Nat} {g : List Value} {a : Act} {o : Oper}

theorem wpP_pass (hi : ops[i]? = some o) (hw : ws i = false) (hn : Region.wanted o (yielded ops a.tmps) = false) (h : wpP P ops RL ws Lq rest g (a.put o.dst undef)) : wpP P ops RL ws Lq (i :: rest) g a :=
  YieldsP.stP hi hw (.inr ⟨hn, rfl⟩) h
theorem wpP_val_want {v : Value} (hi : ops[i]? = some o) (hw : ws i = false) (hg : Region.wanted o (yielded ops a.tmps) = true) (hv : ∀ t w, RL (g ++ t) w → (execOp a.eval o).run P w = .ok (.value v) w) (h : wpP P ops RL ws Lq rest g (a.put o.dst v)) : wpP P ops RL ws Lq (i :: rest) g a :=
  YieldsP.stP hi hw (.inl ⟨hg, fun t w hR => by rw [hv t w hR]; exact ⟨rfl, hR⟩⟩) h
theorem wpP_call_want {v : Value} {f : FuncId} {args : Array Value} (hmono : ∀ g w w', RL g w → Below w.heap.size w w' → RL g w') (hi : ops[i]? = some o) (hw : ws i = false) (hg : Region.wanted o (yielded ops a.tmps) = true) (hv : ∀ t w, RL (g ++ t) w → (execOp a.eval o).run P w = .ok (.enter f args) w)
    (hc : ∀ t w, RL (g ++ t) w → Pur P f args w v) (h : wpP P ops RL ws Lq rest g (a.put o.dst v)) : wpP P ops RL ws Lq (i :: rest) g a :=
  YieldsP.stP hi hw (.inl ⟨hg, fun t w hR => by
    rw [hv t w hR]
    exact (hc t w hR).out.mono fun e w'' ⟨he, hb⟩ => ⟨v, he, rfl, hmono _ _ _ hR hb⟩⟩) h
/-- A store: it gives no value. -/
theorem wpP_store (hi : ops[i]? = some o) (hw : ws i = true) (hg : o.guard = none) (hd : o.dst = none) (hu : ∀ u w, RL (g ++ [u]) w → u = undef) (hv : ∀ w, RL g w → ∃ w', (execOp a.eval o).run P w = .ok .skip w' ∧ RL (g ++ [undef]) w')
    (h : wpP P ops RL ws Lq rest (g ++ [undef]) a) : wpP P ops RL ws Lq (i :: rest) g a := by
  show StP P ops RL ws i g _ a
  unfold StP
  simp only [hi, hw]
  rw [if_pos trivial]
  refine ⟨by simp [Region.wanted, hg], fun w hR => ?_, fun u ⟨w, hR⟩ => ?_⟩
  · obtain ⟨w', e, hR'⟩ := hv w hR
    rw [e]; exact hR'
  · obtain rfl := hu u w hR
    rw [hd]; exact h
end
end Ph
end Go.Proofs.YtckbckdaffdjmaaDoor
