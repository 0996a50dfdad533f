/- The law TreeBack: run. -/
import Derived.Test.YtdccehmekkcheaaDoorULBk
namespace Go.Proofs.YtdccehmekkcheaaDoor
open Go Go.Eng Go.RowKit
set_option linter.unusedVariables false
set_option linter.unusedSimpArgs false
set_option maxRecDepth 100000
theorem op_ok {l:List Lf} (h:AllL l) (h0:l≠[]) (hd:rndD l l.length=false) (x:B32):aL (opT hV l x):=by
 have hA:=(ap_iff (tnd_ok h)).1 (tnd_apart h hd)
 have hne:tndV l≠[]:=by rw[←List.length_pos_iff,tnd_len,List.length_pos_iff];exact h0
 have W:=witV_spec hV hV_ok true hA hne [x]
 rw[←aroV_wit hV hV_ok true hA] at W
 exact(Wit.ap hV hV_ok hA W).ok
end Go.Proofs.YtdccehmekkcheaaDoor
