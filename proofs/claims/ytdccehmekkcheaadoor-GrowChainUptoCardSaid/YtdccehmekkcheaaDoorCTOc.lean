/- The law TreeOpens: its content. -/
import Derived.Test.YtdccehmekkcheaaDoorCTrD
import Derived.Test.YtdccehmekkcheaaDoorCLTo
set_option linter.unusedSimpArgs false
set_option linter.unusedVariables false
namespace Go.Proofs.YtdccehmekkcheaaDoor
open Go Go.Eng Go.RowKit
set_option maxRecDepth 100000
noncomputable def vC (os:Os):World:=
 { World.holding Tryd.prog os ⟨#[], #[],[]⟩ with heap:=(World.holding Tryd.prog os ⟨#[], #[],[]⟩).heap.modify 1 fun
   | .cells _ t frozen=> .cells (S3.jI.map (Value.int .u32)).toArray t frozen
   | o=>o }
end Go.Proofs.YtdccehmekkcheaaDoor
