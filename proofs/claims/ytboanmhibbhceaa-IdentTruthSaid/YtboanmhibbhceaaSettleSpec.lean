/- Settle, as a plain function. -/
import Derived.Test.YtboanmhibbhceaaGens
namespace Go.Proofs.Ytboanmhibbhceaa
namespace Spec
def full (k : Int) : Bool := k == 3 || k == 4 || k == 6
/-- Settle: the verdict's kind and rule, and the error. -/
def settle (k r own peer : Int) : Int × Int × Int :=
  if k < 0 ∨ 7 < k then (0, 0, 1)
  else if (own ≠ 0 ∧ own ≠ 1 ∧ own ≠ 2) ∨ (peer ≠ 0 ∧ peer ≠ 1 ∧ peer ≠ 2) then (0, 0, 61)
  else if k = 7 then (k, r, 0)
  else if own = 0 ∧ peer = 0 then (if k = 0 ∨ k = 5 ∨ k = 6 then (k, r, 0) else (0, 0, 172))
  else if peer = 0 then (if full k = true then (if k = 3 then (k, r, 0) else (3, 20, 0)) else (if k = 1 then (k, r, 0) else (1, 20, 0)))
  else if own = 0 then (if full k = true then (if k = 4 then (k, r, 0) else (4, 20, 0)) else (if k = 2 then (k, r, 0) else (2, 20, 0)))
  else if k = 0 ∧ own < peer then (2, 20, 0)
  else if k = 0 ∧ peer < own then (1, 20, 0)
  else (k, r, 0)
end Spec
end Go.Proofs.Ytboanmhibbhceaa
