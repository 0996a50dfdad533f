/- beaconlaw11.distinct: walk, contracts. -/
import Derived.Test.YtdccehmekkcheaaDoorJLTo
import Derived.Test.YtdccehmekkcheaaDoorJTLs
namespace Go.Proofs.YtdccehmekkcheaaDoor
open Go Go.Eng Go.RowKit
set_option linter.unusedVariables false
set_option linter.unusedSimpArgs false
set_option maxRecDepth 100000
namespace dst
theorem ld_llab (l:List Lf) {i:Nat} (hi:i<l.length):0+offI 0 (i:Int) 64+32≤(lvals l).length∧SV.o (.g (bg (lvals l) (0+offI 0 (i:Int) 64) 32))=cB32.enc (l.getD i zl).lab:=by
 have hb:i*64+64≤l.length*64:=by have:=Nat.mul_le_mul_right 64 (show i+1≤l.length by omega);omega
 rw[offs,bH]
 refine⟨by omega,?_⟩
 have:=takeV_flat Lf.vals_len l zl 0 32 hi (by omega)
 rw[Nat.add_zero] at this
 rw[this]
 rfl
end dst
end Go.Proofs.YtdccehmekkcheaaDoor
