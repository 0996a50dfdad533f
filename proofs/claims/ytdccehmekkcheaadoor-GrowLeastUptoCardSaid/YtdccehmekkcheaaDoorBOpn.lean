/- SameNodes; Open of both sides: contracts. -/
import Derived.Test.YtdccehmekkcheaaDoorBFo
import Derived.Test.YtdccehmekkcheaaDoorBMTE
import Derived.Test.YtdccehmekkcheaaDoorBTrPl
import Derived.Test.YtdccehmekkcheaaDoorBTLn
namespace Go.Proofs.YtdccehmekkcheaaDoor
open Go Go.Eng Go.RowKit
set_option linter.unusedVariables false
set_option linter.unusedSimpArgs false
set_option maxRecDepth 100000
theorem leaf_good {z:Lf} (h:LOk z):GoodP (leafV z):=⟨by show(0:Int)≤256;omega,by show(256:Int)≤256;omega,fst_all h.1 (by show 256≤(256:Int).toNat;omega)⟩
theorem mem_rnd {l:List Lf} {n:Nd} (hn:n∈rndA l l.length):∃z∈l,leafV z=n:=by
 have q:=(rnd_perm l l.length (Nat.le_refl _)).mem_iff.1 hn
 rw[leaves_all] at q
 exact List.mem_map.1 q
theorem rnd_ap {l:List Lf} (h:AllL l) (hd:rndD l l.length=false):Ap (rndA l l.length):=by
 have hk:=rnd_nok h l.length (Nat.le_refl _)
 refine⟨fun n hn=> ?_,(rnd_pair h l.length (Nat.le_refl _) hd).imp_of_mem fun {a b} ha hb hab=> ?_,hk⟩
 ·obtain⟨z,hz,rfl⟩:=mem_rnd hn
  exact leaf_good (h z hz)
 ·have hc:=com_lt (hk a ha).1 (hk b hb).1 hab.ne
  obtain⟨z,hz,rfl⟩:=mem_rnd ha
  obtain⟨y,hy,rfl⟩:=mem_rnd hb
  exact⟨hab,by show _<(256:Int);omega,by show _<(256:Int);omega⟩
theorem tnd_apart {l:List Lf} (h:AllL l) (hd:rndD l l.length=false):aL (tndV l)=true:=by
 rw[←rnd_tnd h hd]
 exact(ap_iff (rnd_nok h _ (Nat.le_refl _))).2 (rnd_ap h hd)
end Go.Proofs.YtdccehmekkcheaaDoor
