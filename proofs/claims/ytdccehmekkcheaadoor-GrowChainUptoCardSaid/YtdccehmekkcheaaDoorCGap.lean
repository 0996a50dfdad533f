/- Laws of growth: the region that calls apart. -/
import Derived.Test.YtdccehmekkcheaaDoorCFo
import Derived.Test.YtdccehmekkcheaaDoorCMTF
import Derived.Test.YtdccehmekkcheaaDoorCGaw
set_option linter.unusedSimpArgs false
set_option linter.unusedVariables false
namespace Go.Proofs.YtdccehmekkcheaaDoor
open Go Go.Eng Go.RowKit
set_option maxRecDepth 100000
def tsOf (o:Oper):Array TypeId:=match o.op with
 | .call ⟨_,_,ts⟩=>ts
 | _=> #[]
def decOf (d:Option (List aU × List fG × Cst)):List aU × List fG × Cst:=match d with
 | some x=>x
 | none=>([],[],[])
end Go.Proofs.YtdccehmekkcheaaDoor
