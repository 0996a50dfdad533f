/- The law TreeNodes: walk. -/
import Derived.Test.YtdccehmekkcheaaDoorCFo
import Derived.Test.YtdccehmekkcheaaDoorCTLa
set_option linter.unusedSimpArgs false
set_option linter.unusedVariables false
namespace Go.Proofs.YtdccehmekkcheaaDoor
open Go Go.Eng Go.RowKit
set_option maxRecDepth 100000
theorem empty:(([]:List Value).drop (0+0)).take (0*65)=[]:=rfl
theorem uF (a:List Int):eqL a a=true:=(pW a a).2 rfl
end Go.Proofs.YtdccehmekkcheaaDoor
