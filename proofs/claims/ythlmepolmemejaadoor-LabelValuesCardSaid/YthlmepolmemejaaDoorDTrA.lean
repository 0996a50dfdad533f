/- Nodes and leaves as rows; packages tree, beaconref11, beaconref07: what is done with bits: walks, contracts. -/
import Derived.Test.YthlmepolmemejaaDoorDTrM
import Derived.Test.YthlmepolmemejaaDoorDMX
namespace Go.Proofs.YthlmepolmemejaaDoor
open Go Go.Eng Go.RowKit
set_option linter.unusedVariables false
set_option linter.unusedSimpArgs false
set_option maxRecDepth 100000
abbrev GT : Glob := S3.Gs
abbrev tabL {α : Type} := @S3.tabL α
abbrev tabR {α : Type} := @S3.tabR α
structure Lf where
  lab : B32
  val : B32
def Nd.row (n : Nd) : List Atom := int1 .i64 n.len :: (cB32.row n.pre ++ cB32.row n.hash)
def Lf.row (n : Lf) : List Atom := cB32.row n.lab ++ cB32.row n.val
theorem Nd.ids (k : Nd) : idsAll k.row = [] := rfl
theorem Lf.ids (k : Lf) : idsAll k.row = [] := rfl
def Nd.of : List Atom → Option Nd
  | .v (.int .i64 g) :: r => match cB32.dec (.o (.g (r.take 32))), cB32.dec (.o (.g (r.drop 32))) with
    | some a, some b => some ⟨g, a, b⟩
    | _, _ => none
  | _ => none
def Lf.of (r : List Atom) : Option Lf := match cB32.dec (.o (.g (r.take 32))), cB32.dec (.o (.g (r.drop 32))) with
    | some a, some b => some ⟨a, b⟩
    | _, _ => none
def lenN (x : Nat) : Nat := if x = 0 then 0 else if x < 2 then 1 else if x < 4 then 2 else if x < 8 then 3 else if x < 16 then 4 else if x < 32 then 5 else if x < 64 then 6 else if x < 128 then 7 else 8
theorem lenN_le (x : Nat) : lenN x ≤ 8 := by
  unfold lenN
  repeat' split
  all_goals omega
end Go.Proofs.YthlmepolmemejaaDoor
