/- beaconlaw11.distinct: walk, contracts. -/
import Derived.Test.YtdccehmekkcheaaDoorYFo
import Derived.Test.YtdccehmekkcheaaDoorYLTo
import Derived.Test.YtdccehmekkcheaaDoorYTLs
namespace Go.Proofs.YtdccehmekkcheaaDoor
open Go Go.Eng Go.RowKit
set_option linter.unusedVariables false
set_option linter.unusedSimpArgs false
set_option maxRecDepth 100000
namespace dst
theorem oneLv (x:Lf):∀v∈x.vals,v.oneCell'=true:=fun v hv=>by
 unfold Lf.vals at hv
 obtain⟨i,_,rfl⟩:=List.mem_map.1 hv
 rfl
theorem ld_llab (l:List Lf) {i:Nat} (hi:i<l.length):0+offI 0 (i:Int) 64+32≤(lvals l).length∧SV.o (.g (aY (lvals l) (0+offI 0 (i:Int) 64) 32))=cB32.enc (l.getD i zl).lab:=by
 have hb:i*64+64≤l.length*64:=by have:=Nat.mul_le_mul_right 64 (show i+1≤l.length by omega);omega
 rw[offs,aU]
 refine⟨by omega,?_⟩
 have:=takeV_flat Lf.bR l zl 0 32 hi (by omega)
 rw[Nat.add_zero] at this
 rw[this]
 rfl
theorem ld_leaf (l:List Lf) {i:Nat} (hi:i<l.length):0+offI 0 (i:Int) 64+64≤(lvals l).length∧SV.o (.g (aY (lvals l) (0+offI 0 (i:Int) 64) 64))=cLf.enc (l.getD i zl):=by
 have hb:i*64+64≤l.length*64:=by have:=Nat.mul_le_mul_right 64 (show i+1≤l.length by omega);omega
 rw[offs,aU]
 exact⟨by omega,ld_lf l hi⟩
end dst
end Go.Proofs.YtdccehmekkcheaaDoor
