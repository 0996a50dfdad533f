/- Packages tree, beaconref11: the root of leaves: contracts of both sides. -/
import Derived.Test.YtdccehmekkcheaaDoorYFo
import Derived.Test.YtdccehmekkcheaaDoorYTrY
namespace Go.Proofs.YtdccehmekkcheaaDoor
open Go Go.Eng Go.RowKit
set_option linter.unusedVariables false
set_option linter.unusedSimpArgs false
set_option maxRecDepth 100000
theorem leaf_nok {z:Lf} (h:LOk z):NOk (leafV z):=⟨h.1,sha_ok _⟩
theorem tnd_ok {l:List Lf} (h:AllL l):aN (tndV l):=fun x hx=>by
 unfold tndV at hx
 obtain⟨z,hz,rfl⟩:=List.mem_map.1 ((sortL_perm _).mem_iff.1 hx)
 exact leaf_nok (h z hz)
theorem rnd_nok {l:List Lf} (h:AllL l):∀i,i≤l.length→aN (rndA l i)
 | 0,_,x,hx=>by cases hx
 | i+1,hi,x,hx=>by
  rcases mem_insV hx with rfl | hx
  ·exact leaf_nok (h.at (by omega))
  ·exact rnd_nok h i (by omega) x hx
theorem dtl {l:List Lf} {n:Nat} (hn:l.length=n):((lvals l).drop (0+0)).take (n*64)=lvals l:=by
 rw[Nat.add_zero,List.drop_zero,List.take_of_length_le (by rw[aU];omega)]
namespace rrof
theorem rootV_nil (H:Nd→Nd→B32) (E:B32) (S:Nd→B32):rootV H E S []=(E,0):=rfl
end rrof
end Go.Proofs.YtdccehmekkcheaaDoor
