/- beaconlaw11.distinct: walk, contracts. -/
import Derived.Test.YtdccehmekkcheaaDoorLLTo
import Derived.Test.YtdccehmekkcheaaDoorLTLs
namespace Go.Proofs.YtdccehmekkcheaaDoor
open Go Go.Eng Go.RowKit
set_option linter.unusedVariables false
set_option linter.unusedSimpArgs false
set_option maxRecDepth 100000
namespace dst
theorem oneLv (x:Lf):∀v∈x.vals,v.oneCell'=true:=fun v hv=>by
 unfold Lf.vals at hv
 obtain⟨i,_,rfl⟩:=List.mem_map.1 hv
 rfl
end dst
end Go.Proofs.YtdccehmekkcheaaDoor
