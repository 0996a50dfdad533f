/- The law TreeOpens: walk. -/
import Derived.Test.YtdccehmekkcheaaDoorUOpn
namespace Go.Proofs.YtdccehmekkcheaaDoor
open Go Go.Eng Go.RowKit
set_option linter.unusedVariables false
set_option linter.unusedSimpArgs false
set_option maxRecDepth 100000
theorem op_eq {l:List Lf} (h:AllL l) (hd:rndD l l.length=false) (x:B32):opT hV l x=opR hV l x:=by
 have hHk:∀a b,BOk (hV a b):=hV_ok
 unfold opT opR
 rw[rnd_tnd h hd]
 exact aroV_wit hV hHk true ((ap_iff (tnd_ok h)).1 (tnd_apart h hd)) _
theorem op_len {l:List Lf} (h:AllL l) (hd:rndD l l.length=false) (x:B32):(opT hV l x).length≤l.length:=by
 have:=aroV_len hV hV_ok true ((ap_iff (tnd_ok h)).1 (tnd_apart h hd)) [x]
 rw[tnd_len] at this
 exact this
theorem roomLf (n:Nat) (h:n≤4000000):Room Tryd.prog 30 n:=by
 have h1:(Tryd.prog.info? 30).map (·.bytes)=some 64:=by kernel_rfl
 cases hq:Tryd.prog.info? 30 with
 | none=>rw[hq] at h1;cases h1
 | some j=>
  rw[hq] at h1
  have:j.bytes=64:=by simpa using h1
  exact⟨j,hq,by rw[this];omega,by omega⟩
end Go.Proofs.YtdccehmekkcheaaDoor
