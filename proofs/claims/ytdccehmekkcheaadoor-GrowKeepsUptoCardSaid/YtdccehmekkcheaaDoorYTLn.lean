/- The law TreeNodes: walk. -/
import Derived.Test.YtdccehmekkcheaaDoorYFo
import Derived.Test.YtdccehmekkcheaaDoorYTLa
namespace Go.Proofs.YtdccehmekkcheaaDoor
open Go Go.Eng Go.RowKit
set_option linter.unusedVariables false
set_option linter.unusedSimpArgs false
set_option maxRecDepth 100000
theorem flat_nd:FlatEq Tryd.prog 33 (.i64::List.replicate 64 .u8):=FlatEq.of Tryd.underlying33 (by kernel_rfl) (by kernel_rfl) (by kernel_rfl)
theorem empty:(([]:List Value).drop (0+0)).take (0*65)=[]:=rfl
theorem eqL_refl (a:List Int):eqL a a=true:=(eqL_iff a a).2 rfl
end Go.Proofs.YtdccehmekkcheaaDoor
