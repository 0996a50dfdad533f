/- An argument that is a row of numbers, by value: what its reading says of it. -/
import Derived.Test.YtdccehmekkcheaaDoorRows
import Derived.WalkKit
import Derived.ProofKit
import Derived.OpenShut
import Derived.Below
import Derived.Carry
import Derived.JoinedCond
namespace Go.Proofs.YtdccehmekkcheaaDoor
open Go Go.ChangeShapes Go.WideShapes Go.ChangeAt Go.RowKit
set_option linter.unusedVariables false
section
variable {H:Type} {enc:TypeId × Value→H} {P:Program} {w:World} {base:Nat} {spare:Nat→Bool} {held:Bool}
theorem open_arr {r:Reach} {b0:Nat} {t e:TypeId} {n:Nat} {k:IntKind} {v:Value} {d:DataW H} {ps:List MemPlace} (ht:P.underlying t=some (.array n e)) (he:P.underlying e=some (.int k)) (hc:P.cellsOf e=1) (hn:P.cellsOf t=n)
  (hval:Value.okWide P w r b0 t v) (hd:DataW.Trod enc P w base spare held t v d ps):
  ∃zs:List Int,zs.length=n∧v= .agg (zs.map (Value.int k)).toArray∧ps=[]∧∀z∈zs,(Lit.int k z).wf=true:=by
 obtain⟨cs,rfl,hs,_⟩:∃cs,v= .agg cs∧cs.size=P.cellsOf t∧Row.okWide P w r b0 t cs:=by
  unfold Value.okWide at hval
  rw[ht] at hval
  exact hval
 obtain⟨fuel,hf⟩:=hd
 obtain⟨xs,m,rfl,hx,hl,hxl,hi⟩:=DataW.trod_array ht hf
 rw[hn] at hl
 simp only[Value.cells] at hl hi
 simp only[hc,Nat.mul_one] at hi
 have hz:∀i,i<n→∃z,cs.toList[i]? =some (.int k z)∧xs[i]? =some (.lit (.int k z),[])∧(Lit.int k z).wf=true:=by
  intro i hin
  have h1:=hi i hin
  have hxi:xs[i]? =some xs[i]:=List.getElem?_eq_getElem (by omega)
  rw[hxi] at h1
  obtain⟨z,h2,h3,h4⟩:=DataW.trod_int he h1
  refine⟨z,?_,by rw[hxi,h3],h4⟩
  have hci:cs.toList[i]? =some cs.toList[i]:=List.getElem?_eq_getElem (by omega)
  have h5:(cs.toList.drop i).take 1=[cs.toList[i]]:=by
   rw[List.drop_eq_getElem_cons (by omega)]
   rfl
  rw[h5] at h2
  rw[hci]
  simpa using h2
 have key:∀(l:List Value) (ys:List (DataW H × List MemPlace)),ys.length=l.length→(∀i,i<l.length→∃z,l[i]? =some (.int k z)∧ys[i]? =some (.lit (.int k z),[])∧(Lit.int k z).wf=true)→
   ∃zs:List Int,l=zs.map (Value.int k)∧ys.flatMap (·.2)=[]∧∀z∈zs,(Lit.int k z).wf=true:=by
  intro l
  induction l with
  | nil=>
   intro ys h1 _
   cases ys with
   | nil=>exact⟨[],rfl,rfl,fun z hz=>by cases hz⟩
   | cons y ys=>simp at h1
  | cons c l ih=>
   intro ys h1 h2
   cases ys with
   | nil=>simp at h1
   | cons y ys=>
    obtain⟨zs,e1,e2,e3⟩:=ih ys (by simpa using h1) (fun i hi=>by simpa using h2 (i+1) (by simpa using hi))
    obtain⟨z,q1,q2,q3⟩:=h2 0 (by simp)
    simp at q1 q2
    subst q1 q2
    refine⟨z::zs,by simp[e1],by simpa using e2,?_⟩
    intro z' hz'
    rcases List.mem_cons.1 hz' with rfl | h
    ·exact q3
    ·exact e3 _ h
 obtain⟨zs,e1,e2,e3⟩:=key cs.toList xs (by omega) (fun i hi'=>hz i (by omega))
 refine⟨zs,?_,?_,?_,e3⟩
 ·rw[e1] at hl;simpa using hl
 ·congr 1
  apply Array.ext'
  simpa using e1
 ·have:=congrArg Prod.snd hx
  simp only at this
  rw[this,e2]
end
end Go.Proofs.YtdccehmekkcheaaDoor
