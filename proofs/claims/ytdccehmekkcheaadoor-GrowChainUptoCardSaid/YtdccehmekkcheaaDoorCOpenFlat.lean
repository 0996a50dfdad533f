/- An argument of numbers alone, to whatever depth (structs, arrays): what its reading says of it. -/
import Derived.Test.YtdccehmekkcheaaDoorCOpenArr
import Derived.Test.YtdccehmekkcheaaDoorCEngX
set_option linter.unusedVariables false
namespace Go.Proofs.YtdccehmekkcheaaDoor
open Go Go.Eng Go.ChangeShapes Go.WideShapes Go.ChangeAt Go.RowKit
def WfK:List IntKind→List Int→Prop
 | k::ks,x::xs=>(Lit.int k x).wf=true∧WfK ks xs
 | _,_=>True
theorem tT:∀{k1:List IntKind} {x1:List Int} {k2:List IntKind} {x2:List Int},x1.length=k1.length→WfK k1 x1→WfK k2 x2→WfK (k1++k2) (x1++x2)
 | [],[],_,_,_,_,h=>h
 | k::ks,x::xs,k2,x2,hl,h,h2=>⟨h.1,tT (by simpa using hl) h.2 h2⟩
 | [],x::xs,_,_,hl,_,_=>by cases hl
 | k::ks,[],_,_,hl,_,_=>by cases hl
section
variable {H:Type} {enc:TypeId × Value→H} {P:Program} {w:World} {base:Nat} {spare:Nat→Bool} {held:Bool}
theorem rM {fuel:Nat} {e:TypeId} {k1:List IntKind} (IH:∀(cs:List Value) (x:DataW H × List MemPlace),DataW.trod enc P w base spare held fuel e cs=some x→∃zs,cs=eF k1 zs∧zs.length=k1.length∧x.2=[]∧WfK k1 zs)
  (hk:k1.length=P.cellsOf e):∀(n s:Nat) (cs:List Value) (xs:List (DataW H × List MemPlace)),cs.length=(s+n)*k1.length→xs.length=s+n→
  (∀i,i<s+n→DataW.trod enc P w base spare held fuel e ((cs.drop (i*P.cellsOf e)).take (P.cellsOf e))=xs[i]?)→
  ∃zs,cs.drop (s*k1.length)=eF (List.replicate n k1).flatten zs∧zs.length=n*k1.length∧(xs.drop s).flatMap (·.2)=[]∧WfK (List.replicate n k1).flatten zs
 | 0,s,cs,xs,hl,hx,h=>⟨[],by rw[List.drop_eq_nil_of_le (by simpa using Nat.le_of_eq hl)];rfl,by simp,by rw[List.drop_eq_nil_of_le (by omega)];rfl,trivial⟩
 | n+1,s,cs,xs,hl,hx,h=>by
  obtain⟨zs,h1,h2,h3,h4⟩:=rM IH hk n (s+1) cs xs (by rw[hl];congr 1;omega) (by omega) (fun i hi=>h i (by omega))
  have hs:=h s (by omega)
  rw[List.getElem?_eq_getElem (show s<xs.length by omega)] at hs
  obtain⟨ys,g1,g2,g3,g4⟩:=IH _ _ hs
  refine⟨ys++zs,?_,?_,?_,?_⟩
  ·rw[List.replicate_succ,List.flatten_cons,kV _ _ _ _ g2,←g1,←h1,hk,show(s+1)*P.cellsOf e=s*P.cellsOf e+P.cellsOf e by rw[Nat.add_mul,Nat.one_mul],←List.drop_drop,List.take_append_drop]
  ·rw[List.length_append,g2,h2,Nat.add_mul,Nat.one_mul,Nat.add_comm]
  ·rw[List.drop_eq_getElem_cons (show s<xs.length by omega),List.flatMap_cons,g3,h3]
   rfl
  ·rw[List.replicate_succ,List.flatten_cons]
   exact tT g2 g4 h4
theorem qW {fuel m:Nat} (IH:∀(t:TypeId) (ks:List IntKind) (cs:List Value) (x:DataW H × List MemPlace),kF P m t=some ks→DataW.trod enc P w base spare held fuel t cs=some x→∃zs,cs=eF ks zs∧zs.length=ks.length∧x.2=[]∧WfK ks zs) (hsz:∀t ks,kF P m t=some ks→ks.length=P.cellsOf t):
  ∀(fs:List Field) (o:Nat) (cs:List Value) (xs:List (DataW H × List MemPlace)) (ks:List IntKind),qB P (kF P m) o fs=some ks→cs.length=o+ks.length→xs.length=fs.length→
  (∀(i:Nat) (f:Field),fs[i]? =some f→DataW.trod enc P w base spare held fuel f.type ((cs.drop f.offset).take (P.cellsOf f.type))=xs[i]?)→
  ∃zs,cs.drop o=eF ks zs∧zs.length=ks.length∧xs.flatMap (·.2)=[]∧WfK ks zs
 | [],o,cs,xs,ks,h,hc,hx,hf=>by
  simp only[qB] at h
  cases h
  have:xs=[]:=List.eq_nil_of_length_eq_zero hx
  subst this
  exact⟨[],by rw[List.drop_eq_nil_of_le (by simpa using Nat.le_of_eq hc)];rfl,rfl,rfl,trivial⟩
 | f::fs,o,cs,xs,ks,h,hc,hx,hf=>by
  unfold qB at h
  split at h
  ·rename_i hn
   obtain⟨hn,ho⟩:=hn
   split at h
   ·rename_i k1 hk1
    split at h<;>cases h
    rename_i k2 hk2
    rw[List.length_append] at hc
    match xs,hx with
    | x0::xs,hx=>
     have h0:=hf 0 f rfl
     obtain⟨ys,g1,g2,g3,g4⟩:=IH _ _ _ x0 hk1 (by simpa using h0)
     obtain⟨zs,h1,h2,h3,h4⟩:=qW IH hsz fs (o+k1.length) cs xs k2 hk2 (by omega) (by simpa using hx) (fun i g hg=>by simpa using hf (i+1) g (by simpa using hg))
     refine⟨ys++zs,?_,?_,?_,tT g2 g4 h4⟩
     ·rw[kV _ _ _ _ g2,←g1,←h1,ho,hsz _ _ hk1,←List.drop_drop,List.take_append_drop]
     ·rw[List.length_append,List.length_append,g2,h2]
     ·rw[List.flatMap_cons,g3,h3]
      rfl
   ·cases h
  ·cases h
theorem flatKs_cells:∀(m:Nat) (t:TypeId) (ks:List IntKind),kF P m t=some ks→ks.length=P.cellsOf t
 | 0,t,ks,h=>by cases h
 | m+1,t,ks,h=>by
  unfold kF at h
  split at h<;>try cases h
  ·split at h<;>cases h
   rename_i hl
   exact hl.symm
  ·split at h
   ·split at h<;>cases h
    rename_i hl
    rw[←hl.2]
    simp[List.length_flatten]
   ·cases h
  ·split at h
   ·split at h
    ·split at h<;>cases h
     rename_i hl
     exact hl
    ·cases h
   ·cases h
theorem uR:∀(m fuel:Nat) (t:TypeId) (ks:List IntKind) (cs:List Value) (x:DataW H × List MemPlace),kF P m t=some ks→DataW.trod enc P w base spare held fuel t cs=some x→∃zs,cs=eF ks zs∧zs.length=ks.length∧x.2=[]∧WfK ks zs
 | 0,_,t,ks,_,_,h,_=>by cases h
 | m+1,fuel,t,ks,cs,x,h,hd=>by
  have hsz:=flatKs_cells (P:=P) m
  unfold kF at h
  split at h<;>try cases h
  ·rename_i k hu
   split at h<;>cases h
   obtain⟨z,rfl,rfl,hz⟩:=DataW.trod_int hu hd
   exact⟨[z],rfl,rfl,rfl,hz,trivial⟩
  ·rename_i n e hu
   split at h
   ·rename_i k1 hk1
    split at h<;>cases h
    rename_i hl
    obtain⟨xs,mm,rfl,rfl,hcl,hxl,hi⟩:=DataW.trod_array hu hd
    obtain⟨zs,g1,g2,g3,g4⟩:=rM (fun cs x hx=>uR m mm e k1 cs x hk1 hx) hl.1 n 0 cs xs (by rw[hcl,←hl.2,Nat.zero_add]) (by omega) (fun i hi'=>hi i (by omega))
    exact⟨zs,by simpa using g1,by rw[g2];simp[List.length_flatten],by simpa using g3,g4⟩
   ·cases h
  ·rename_i fs hu
   split at h
   ·split at h
    ·rename_i k1 hk1
     split at h<;>cases h
     rename_i hl
     obtain⟨xs,mm,rfl,rfl,hcl,hxl,hf⟩:=DataW.trod_struct hu hd
     obtain⟨zs,g1,g2,g3,g4⟩:=qW (m:=m) (fun t ks cs x hk hx=>uR m mm t ks cs x hk hx) (fun t ks hk=>hsz t ks hk) fs.toList 0 cs xs ks hk1 (by rw[hcl,hl,Nat.zero_add]) (by simpa using hxl) (fun i f hfi=>hf i f (by simpa using hfi))
     exact⟨zs,by simpa using g1,g2,g3,g4⟩
    ·cases h
   ·cases h
end
end Go.Proofs.YtdccehmekkcheaaDoor
