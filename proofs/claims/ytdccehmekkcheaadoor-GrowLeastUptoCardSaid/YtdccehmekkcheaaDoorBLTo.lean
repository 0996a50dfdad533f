/- The law TreeOpens: walk. -/
import Derived.Test.YtdccehmekkcheaaDoorBFo
import Derived.Test.YtdccehmekkcheaaDoorBOpn
namespace Go.Proofs.YtdccehmekkcheaaDoor
open Go Go.Eng Go.RowKit
set_option linter.unusedVariables false
set_option linter.unusedSimpArgs false
set_option maxRecDepth 100000
theorem roomLf (n:Nat) (h:n≤4000000):Room Tryd.prog 30 n:=by
 have h1:(Tryd.prog.info? 30).map (·.bytes)=some 64:=by kernel_rfl
 cases hq:Tryd.prog.info? 30 with
 | none=>rw[hq] at h1;cases h1
 | some j=>
  rw[hq] at h1
  have:j.bytes=64:=by simpa using h1
  exact⟨j,hq,by rw[this];omega,by omega⟩
namespace lope
theorem lfDec0:ak ((([]:List Value).drop (0+0)).take (0*64))=[]:=by rw[show((([]:List Value).drop (0+0)).take (0*64))=[] by simp];exact aY []
end lope
end Go.Proofs.YtdccehmekkcheaaDoor
