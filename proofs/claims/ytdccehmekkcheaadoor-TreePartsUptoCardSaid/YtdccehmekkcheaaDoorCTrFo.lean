/- Packages tree, beaconref11: Found: contracts of both sides. -/
import Derived.Test.YtdccehmekkcheaaDoorCMTC
namespace Go.Proofs.YtdccehmekkcheaaDoor
open Go Go.Eng Go.RowKit
set_option linter.unusedVariables false
set_option linter.unusedSimpArgs false
set_option maxRecDepth 100000
def scanL : List Nd → B32 → B32 × Bool × Int
  | [], _ => (zB, false, 0)
  | m :: r, x => bif holdsV m x then (bif m.len == 256 then (m.hash, true, 0) else (zB, false, 2)) else scanL r x
def foundV (H : Nd → Nd → B32) (E : B32) (S : Nd → B32) (root : B32) (l : List Nd) (x : B32) : B32 × Bool × Int :=
  bif (rootV H E S l).2 != 0 then (zB, false, 1) else (bif !(eqL (rootV H E S l).1.to root.to) then (zB, false, 3) else scanL l x)
end Go.Proofs.YtdccehmekkcheaaDoor
