/- beaconref11.Nodes: walk, contracts. -/
import Derived.Test.YtdccehmekkcheaaDoorKTrX
namespace Go.Proofs.YtdccehmekkcheaaDoor
open Go Go.Eng Go.RowKit
set_option linter.unusedVariables false
set_option linter.unusedSimpArgs false
set_option maxRecDepth 100000
def insK (out:List Nd) (x:Nd):Nat→Nat
 | 0=>0
 | k+1=>bif ltV x.pre (out.getD k zn).pre then insK out x k else k+1
def insV (out:List Nd) (x:Nd):List Nd:=out.take (insK out x out.length)++x::out.drop (insK out x out.length)
def dupK (out:List Nd) (x:Nd):Nat→Bool
 | 0=>false
 | k+1=>eqL (out.getD k zn).pre.to x.pre.to
def dupV (out:List Nd) (x:Nd):Bool:=dupK out x (insK out x out.length)
noncomputable def rndA (l:List Lf):Nat→List Nd
 | 0=>[]
 | i+1=>insV (rndA l i) (bE (l.getD i zl))
noncomputable def rndD (l:List Lf):Nat→Bool
 | 0=>false
 | i+1=>rndD l i||dupV (rndA l i) (bE (l.getD i zl))
theorem insK_le (out:List Nd) (x:Nd):∀k,insK out x k≤k
 | 0=>Nat.le_refl _
 | k+1=>by
  unfold insK
  cases ltV x.pre (out.getD k zn).pre
  ·exact Nat.le_refl _
  ·exact Nat.le_succ_of_le (insK_le out x k)
theorem insV_len (out:List Nd) (x:Nd):(insV out x).length=out.length+1:=by
 have:=insK_le out x out.length
 unfold insV
 rw[List.length_append,List.length_take,List.length_cons,List.length_drop]
 omega
theorem rndA_len (l:List Lf):∀i,(rndA l i).length=i
 | 0=>rfl
 | i+1=>by rw[rndA,insV_len,rndA_len l i]
theorem mem_insV {out:List Nd} {x y:Nd} (h:y∈insV out x):y=x∨y∈out:=by
 unfold insV at h
 rcases List.mem_append.1 h with h | h
 ·exact .inr (List.mem_of_mem_take h)
 ·rcases List.mem_cons.1 h with h | h
  ·exact .inl h
  ·exact .inr (List.mem_of_mem_drop h)
theorem leaf_ok {z:Lf} (h:LOk z):BOk (bE z).pre:=h.1
theorem putN (L ys:List Nd) (a:Nat):putV (a*65) (ah ys) (ah L)=ah (L.take a++(ys++L.drop (a+ys.length))):=by
 unfold putV
 rw[nvals_take,aL,←Nat.add_mul,nvals_drop,nvals_app,nvals_app]
theorem ins_cp (out:List Nd) (k R:Nat) (hk:k≤out.length) (hR:out.length+1≤R):
  putV (0+advS R (k+1) 0 65) ((((ah (out++[zn])).drop (0+advS R k 0 65)).take ((out.length+1-k)*65)).take (Nat.min (out.length+1-k) (out.length+1-(k+1))*65)) (ah (out++[zn]))=ah ((out++[zn]).take (k+1)++out.drop k):=by
 have hm:Nat.min (out.length+1-k) (out.length+1-(k+1))=out.length-k:=by
  show min _ _=_
  omega
 have ha:0+advS R k 0 65=k*65:=by unfold advS;rw[if_neg (by omega)];omega
 rw[hm,ha,nvals_drop,nvals_take,nvals_take]
 have hl:(out++[zn]).length=out.length+1:=by simp
 have e1:(((out++[zn]).drop k).take (out.length+1-k)).take (out.length-k)=out.drop k:=by
  rw[List.take_take,List.drop_append_of_le_length hk,List.take_append_of_le_length (by rw[List.length_drop];omega),List.take_of_length_le (by rw[List.length_drop];omega)]
 rw[e1]
 by_cases hR2:R=k+1
 ·obtain rfl:k=out.length:=by omega
  have ha1:0+advS R (out.length+1) 0 65=0*65:=by unfold advS;rw[if_pos hR2]
  rw[ha1,putN,List.take_zero,List.nil_append,List.drop_length,List.length_nil,List.nil_append,List.drop_zero,List.append_nil,List.take_of_length_le (by omega)]
 ·have ha1:0+advS R (k+1) 0 65=(k+1)*65:=by unfold advS;rw[if_neg hR2];omega
  rw[ha1,putN,List.drop_eq_nil_of_le (show(out++[zn]).length≤k+1+(out.drop k).length by rw[hl,List.length_drop];omega),List.append_nil]
theorem ins_put (out:List Nd) (x:Nd) (k R:Nat) (hk:k≤out.length) (hR:out.length+1≤R):
  putV (0+offI 0 (k:Int) 65) x.vals (ah ((out++[zn]).take (k+1)++out.drop k))=ah (out.take k++x::out.drop k):=by
 have hl:(out++[zn]).length=out.length+1:=by simp
 have ht:((out++[zn]).take (k+1)).length=k+1:=by rw[List.length_take];omega
 rw[offs,←nvals_one,putN,List.take_append_of_le_length (by omega),List.take_take,show min k (k+1)=k by omega,List.take_append_of_le_length hk]
 rw[List.drop_append,List.drop_eq_nil_of_le (by rw[ht];exact Nat.le_refl _),List.nil_append,ht,show k+[x].length-(k+1)=0 from Nat.sub_self _,List.drop_zero]
 rfl
end Go.Proofs.YtdccehmekkcheaaDoor
