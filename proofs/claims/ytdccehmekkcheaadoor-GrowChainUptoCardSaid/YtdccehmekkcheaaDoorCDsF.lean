/- beaconlaw11.distinct: walk, contracts. -/
import Derived.Test.YtdccehmekkcheaaDoorCFo
import Derived.Test.YtdccehmekkcheaaDoorCLTo
import Derived.Test.YtdccehmekkcheaaDoorCTLs
set_option linter.unusedSimpArgs false
set_option linter.unusedVariables false
namespace Go.Proofs.YtdccehmekkcheaaDoor
open Go Go.Eng Go.RowKit
set_option maxRecDepth 100000
def dF (out:List Lf) (x:B32):Nat→Bool
 | 0=>true
 | k+1=>dF out x k&& !eqL (out.getD k zl).lab.to x.to
def bY (l:List Lf):Nat→List Lf
 | 0=>[]
 | i+1=>bif dF (bY l i) (l.getD i zl).lab (bY l i).length then bY l i++[l.getD i zl] else bY l i
theorem pK (out:List Lf) (x:B32):∀k,dF out x k=true↔∀j,j<k→(out.getD j zl).lab≠x
 | 0=>⟨fun _ j hj=>absurd hj (by omega),fun _=>rfl⟩
 | k+1=>by
  rw[dF,Bool.and_eq_true,pK out x k,Bool.not_eq_true',←Bool.not_eq_true,pW]
  constructor
  ·rintro⟨h1,h2⟩ j hj
   rcases Nat.lt_or_ge j k with h | h
   ·exact h1 j h
   ·obtain rfl:j=k:=by omega
    exact fun e=>h2 (by rw[e])
  ·intro h
   exact⟨fun j hj=>h j (by omega),fun e=>h k (by omega) (to_inj e)⟩
theorem pX (l:List Lf):∀i,(bY l i).length≤i
 | 0=>Nat.le_refl _
 | i+1=>by
  have:=pX l i
  rw[bY]
  cases dF (bY l i) (l.getD i zl).lab (bY l i).length with
  | true=>rw[cond_true,List.length_append];simp;omega
  | false=>rw[cond_false];omega
theorem dstA_mem (l:List Lf):∀i,i≤l.length→∀z∈bY l i,z∈l
 | 0,_,z,hz=>by cases hz
 | i+1,hi,z,hz=>by
  rw[bY] at hz
  cases hq:dF (bY l i) (l.getD i zl).lab (bY l i).length with
  | true=>
   rw[hq,cond_true] at hz
   rcases List.mem_append.1 hz with h | h
   ·exact dstA_mem l i (by omega) z h
   ·rw[List.mem_singleton.1 h];exact dV (by omega) _
  | false=>rw[hq,cond_false] at hz;exact dstA_mem l i (by omega) z hz
theorem dstA_ne (l:List Lf):∀i,((bY l i).map bP).Pairwise NeP
 | 0=>List.Pairwise.nil
 | i+1=>by
  rw[bY]
  cases hq:dF (bY l i) (l.getD i zl).lab (bY l i).length with
  | true=>
   rw[cond_true,List.map_append,List.pairwise_append]
   refine⟨dstA_ne l i,List.pairwise_singleton _ _,fun a ha b hb=> ?_⟩
   obtain⟨z,hz,rfl⟩:=List.mem_map.1 ha
   obtain rfl:=List.mem_singleton.1 hb
   obtain⟨j,hj,rfl⟩:=List.mem_iff_getElem.1 hz
   have:=(pK _ _ _).1 hq j hj
   rw[getD_lt hj] at this
   exact this
  | false=>rw[cond_false];exact dstA_ne l i
namespace dst
theorem oneLv (x:Lf):∀v∈x.vals,v.oneCell'=true:=fun v hv=>by
 unfold Lf.vals at hv
 obtain⟨i,_,rfl⟩:=List.mem_map.1 hv
 rfl
theorem tu (l:List Lf) {i:Nat} (hi:i<l.length):0+aN 0 (i:Int) 64+32≤(lvals l).length∧SV.o (.g (bn (lvals l) (0+aN 0 (i:Int) 64) 32))=ay.enc (l.getD i zl).lab:=by
 have hb:i*64+64≤l.length*64:=by have:=Nat.mul_le_mul_right 64 (show i+1≤l.length by omega);omega
 rw[offs,bU]
 refine⟨by omega,?_⟩
 have:=lF Lf.dG l zl 0 32 hi (by omega)
 rw[Nat.add_zero] at this
 rw[this]
 rfl
theorem tC (l:List Lf) {i:Nat} (hi:i<l.length):0+aN 0 (i:Int) 64+64≤(lvals l).length∧SV.o (.g (bn (lvals l) (0+aN 0 (i:Int) 64) 64))=cLf.enc (l.getD i zl):=by
 have hb:i*64+64≤l.length*64:=by have:=Nat.mul_le_mul_right 64 (show i+1≤l.length by omega);omega
 rw[offs,bU]
 exact⟨by omega,ld_lf l hi⟩
end dst
end Go.Proofs.YtdccehmekkcheaaDoor
