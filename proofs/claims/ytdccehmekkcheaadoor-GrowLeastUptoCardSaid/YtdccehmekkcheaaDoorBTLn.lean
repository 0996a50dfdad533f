/- The law TreeNodes: walk. -/
import Derived.Test.YtdccehmekkcheaaDoorBFo
import Derived.Test.YtdccehmekkcheaaDoorBTLa
namespace Go.Proofs.YtdccehmekkcheaaDoor
open Go Go.Eng Go.RowKit
set_option linter.unusedVariables false
set_option linter.unusedSimpArgs false
set_option maxRecDepth 100000
theorem empty:(([]:List Value).drop (0+0)).take (0*65)=[]:=rfl
end Go.Proofs.YtdccehmekkcheaaDoor
