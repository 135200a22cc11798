/- The document's verdict, as a plain function. (Printed by wip/mkfirst.py.) -/
import Derived.Test.YtboanmhibbhceaaPairs3
namespace Go.Proofs.Ytboanmhibbhceaa
namespace Spec
def apart (a b : G) : Int × Int := if mtch a.b b.b = true then (5, 12) else if (rel a.b b || rel a.o b || rel a.p b) = true then (6, 13) else (7, 14)
def first (a : G) (ca : Bool) (b : G) (cb : Bool) : Int × Int :=
  match isNew b, isNew a, (a.c == b.c), ca, cb, (a.b != 0), (b.b != 0), mtch a.b b.c, mtch b.b a.c, old b.c a, old a.c b with
  | true, true, _, _, _, _, _, _, _, _, _ => (0, 1)
  | true, false, _, _, _, _, _, _, _, _, _ => (3, 2)
  | false, true, _, _, _, _, _, _, _, _, _ => (4, 2)
  | false, false, true, true, true, _, _, _, _, _, _ => (1, 4)
  | false, false, true, true, false, _, _, _, _, _, _ => (1, 3)
  | false, false, true, false, true, _, _, _, _, _, _ => (2, 3)
  | false, false, true, false, false, true, true, _, _, _, _ => (1, 7)
  | false, false, true, false, false, true, false, _, _, _, _ => (1, 5)
  | false, false, true, false, false, false, true, _, _, _, _ => (2, 5)
  | false, false, true, false, false, false, false, _, _, _, _ => (0, 6)
  | false, false, false, _, _, _, _, true, true, _, _ => (5, 8)
  | false, false, false, _, _, _, _, true, false, _, _ => (1, 9)
  | false, false, false, _, _, _, _, false, true, _, _ => (2, 9)
  | false, false, false, _, _, _, _, false, false, true, true => (6, 10)
  | false, false, false, _, _, _, _, false, false, true, false => (3, 11)
  | false, false, false, _, _, _, _, false, false, false, true => (4, 11)
  | false, false, false, _, _, _, _, false, false, false, false => apart a b
end Spec
end Go.Proofs.Ytboanmhibbhceaa
