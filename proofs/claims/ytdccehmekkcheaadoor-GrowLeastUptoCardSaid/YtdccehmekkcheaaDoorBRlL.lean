/- The law GrowRelinks: walk. -/
import Derived.Test.YtdccehmekkcheaaDoorBFo
import Derived.Test.YtdccehmekkcheaaDoorBRlF
import Derived.Test.YtdccehmekkcheaaDoorBGaw
namespace Go.Proofs.YtdccehmekkcheaaDoor
open Go Go.Eng Go.RowKit
set_option linter.unusedVariables false
set_option linter.unusedSimpArgs false
set_option maxRecDepth 100000
theorem AllK.nil:AllK []:=fun x hx=>by cases hx
end Go.Proofs.YtdccehmekkcheaaDoor
