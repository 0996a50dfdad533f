/- beaconlaw11.distinct: walk, contracts. -/
import Derived.Test.YtdccehmekkcheaaDoorULTo
import Derived.Test.YtdccehmekkcheaaDoorUTLs
namespace Go.Proofs.YtdccehmekkcheaaDoor
open Go Go.Eng Go.RowKit
set_option linter.unusedVariables false
set_option linter.unusedSimpArgs false
set_option maxRecDepth 100000
namespace dst
theorem oneLv (x:Lf):∀v∈x.vals,v.oneCell'=true:=fun v hv=>by
 unfold Lf.vals at hv
 obtain⟨i,_,rfl⟩:=List.mem_map.1 hv
 rfl
theorem ld_leaf (l:List Lf) {i:Nat} (hi:i<l.length):0+offI 0 (i:Int) 64+64≤(lvals l).length∧SV.o (.g (aZ (lvals l) (0+offI 0 (i:Int) 64) 64))=cLf.enc (l.getD i zl):=by
 have hb:i*64+64≤l.length*64:=by have:=Nat.mul_le_mul_right 64 (show i+1≤l.length by omega);omega
 rw[offs,bR]
 exact⟨by omega,ld_lf l hi⟩
end dst
end Go.Proofs.YtdccehmekkcheaaDoor
