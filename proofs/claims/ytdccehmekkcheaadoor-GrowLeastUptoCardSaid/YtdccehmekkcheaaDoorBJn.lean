/- Package beaconref01: Join of lists of slices: walks, contracts. -/
import Derived.Test.YtdccehmekkcheaaDoorBFo
import Derived.Test.YtdccehmekkcheaaDoorBMY
import Derived.Test.YtdccehmekkcheaaDoorBLst
namespace Go.Proofs.YtdccehmekkcheaaDoor
open Go Go.Eng Go.RowKit
set_option linter.unusedVariables false
set_option linter.unusedSimpArgs false
set_option maxRecDepth 100000
theorem roomU (n:Nat) (h:n≤140737488355328):Room Tryd.prog 5 n:=by
 have h1:(Tryd.prog.info? 5).map (·.bytes)=some 1:=by kernel_rfl
 cases hq:Tryd.prog.info? 5 with
 | none=>rw[hq] at h1;cases h1
 | some j=>
  rw[hq] at h1
  have:j.bytes=1:=by simpa using h1
  exact⟨j,hq,by rw[this];omega,by omega⟩
end Go.Proofs.YtdccehmekkcheaaDoor
