/- GrowAccepts: the region that joins both lists: facts. -/
import Derived.Test.YtdccehmekkcheaaDoorBFo
import Derived.Test.YtdccehmekkcheaaDoorBGas
import Derived.Test.YtdccehmekkcheaaDoorBRlL
import Derived.Test.YtdccehmekkcheaaDoorBMTI
namespace Go.Proofs.YtdccehmekkcheaaDoor
open Go Go.Eng Go.RowKit
set_option linter.unusedVariables false
set_option linter.unusedSimpArgs false
set_option maxRecDepth 100000
namespace lgac
namespace ww
end ww
end lgac
end Go.Proofs.YtdccehmekkcheaaDoor
namespace Go.Proofs.YtdccehmekkcheaaDoor
open Go Go.Eng Go.RowKit
set_option linter.unusedVariables false
set_option linter.unusedSimpArgs false
set_option maxRecDepth 100000
theorem acp.sl {X Y:List Lf} (hX:AllL X) (hne:((X++Y).map leafV).Pairwise NeP):(stT hV X Y).length≤X.length:=by
 rcases X with _ | ⟨z,X⟩
 ·have e:stT hV [] Y=[]:=by unfold stT;rw[tnd_nil];rfl
  rw[e]
  exact Nat.le_refl _
 ·have hA:=acp.apT hX (ne_left hne)
  have e:stT hV (z::X) Y=witV hV false (tndV (z::X)) (labs Y):=aroV_wit hV hV_ok false hA _
  rw[e]
  have:=witV_len hV hV_ok false hA (labs Y)
  rw[tnd_len] at this
  exact this
theorem acp.aok {X Y:List Lf} (hX:AllL X) (hY:AllL Y) (hne:((X++Y).map leafV).Pairwise NeP) (H:Nd→Nd→B32) (hH:H=hV):aT (stT H X Y):=by
 subst hH
 exact(acp.stay hX hY hne).1.ok
end Go.Proofs.YtdccehmekkcheaaDoor
