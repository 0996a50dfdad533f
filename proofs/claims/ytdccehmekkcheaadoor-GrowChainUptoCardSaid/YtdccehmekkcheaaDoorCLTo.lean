/- The law TreeOpens: walk. -/
import Derived.Test.YtdccehmekkcheaaDoorCFo
import Derived.Test.YtdccehmekkcheaaDoorCOpn
set_option linter.unusedSimpArgs false
set_option linter.unusedVariables false
namespace Go.Proofs.YtdccehmekkcheaaDoor
open Go Go.Eng Go.RowKit
set_option maxRecDepth 100000
theorem op_eq {l:List Lf} (h:bI l) (hd:fK l l.length=false) (x:B32):opT hV l x=opR hV l x:=by
 have hHk:∀a b,BOk (hV a b):=gW
 unfold opT opR
 rw[rnd_tnd h hd]
 exact nZ hV hHk true ((gF (iV h)).1 (kN h hd)) _
theorem op_len {l:List Lf} (h:bI l) (hd:fK l l.length=false) (x:B32):(opT hV l x).length≤l.length:=by
 have:=aroV_len hV gW true ((gF (iV h)).1 (kN h hd)) [x]
 rw[je] at this
 exact this
theorem iw (n:Nat) (h:n≤4000000):Room Tryd.prog 30 n:=by
 have h1:(Tryd.prog.info? 30).map (·.bytes)=some 64:=by kernel_rfl
 cases hq:Tryd.prog.info? 30 with
 | none=>rw[hq] at h1;cases h1
 | some j=>
  rw[hq] at h1
  have:j.bytes=64:=by simpa using h1
  exact⟨j,hq,by rw[this];omega,by omega⟩
namespace lope
theorem lfDec0:av ((([]:List Value).drop (0+0)).take (0*64))=[]:=by rw[show((([]:List Value).drop (0+0)).take (0*64))=[] by simp];exact bW []
end lope
end Go.Proofs.YtdccehmekkcheaaDoor
