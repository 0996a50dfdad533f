/- An argument that is a slice whose elements are of several cells: what its reading says of it. -/
import Derived.Test.YtdccehmekkcheaaDoorCOpenFlat
import Derived.Test.YtdccehmekkcheaaDoorCEngY
set_option linter.unusedVariables false
namespace Go.Proofs.YtdccehmekkcheaaDoor
open Go Go.Eng Go.ChangeShapes Go.WideShapes Go.ChangeAt Go.RowKit
inductive VArg where
 | none (a:Option Addr)
 | win (vs:List Value) (n c:Nat) (ty:TypeId) (at_:Eng.Loc)
def VArg.val:VArg→Value
 | .none a=> .slice a 0 0
 | .win vs n c ty l=> .slice (some (l.at 0)) n c
def VArg.ok (sz:Nat) (W:World):VArg→Prop
 | .none a=>True
 | .win vs n c ty l=>vs.length=n*sz∧n≤c∧l.c=c∧c≤maxLen∧∃fr pre tail,W.heap[l.a]? =some (.cells (pre++(vs++tail)).toArray ty fr)∧pre.length=l.s
def VArg.each (sz:Nat) (Q:List Value→Prop):VArg→Prop
 | .none a=>True
 | .win vs n c ty l=>∀i,i<n→Q ((vs.drop (i*sz)).take sz)
theorem split_rows {α:Type} {f:α→List Value} {sz:Nat} {R:α→Prop}:∀(n:Nat) (vs:List Value),vs.length=n*sz→(∀i,i<n→∃x,(vs.drop (i*sz)).take sz=f x∧R x)→∃S:List α,vs=S.flatMap f∧S.length=n∧∀x∈S,R x
 | 0,vs,hl,_=>⟨[],by rw[Nat.zero_mul] at hl;exact List.eq_nil_of_length_eq_zero hl,rfl,fun x hx=>by cases hx⟩
 | n+1,vs,hl,h=>by
  obtain⟨x,h1,h2⟩:=h 0 (by omega)
  rw[Nat.zero_mul,List.drop_zero] at h1
  rw[Nat.add_mul,Nat.one_mul] at hl
  obtain⟨S,g1,g2,g3⟩:=split_rows (f:=f) (R:=R) (sz:=sz) n (vs.drop sz) (by rw[List.length_drop,hl];omega) fun i hi=>by
   have:=h (i+1) (by omega)
   rw[List.drop_drop]
   rwa [show(i+1)*sz=sz+i*sz by rw[Nat.add_mul,Nat.one_mul,Nat.add_comm]] at this
  refine⟨x::S,?_,by rw[List.length_cons,g2],fun y hy=> ?_⟩
  ·rw[List.flatMap_cons,←g1,←h1,List.take_append_drop]
  ·rcases List.mem_cons.1 hy with rfl | hy
   ·exact h2
   ·exact g3 y hy
theorem open_varg {H:Type} {enc:TypeId × Value→H} {P:Program} {W:World} {base:Nat} {held:Bool} {r:Reach} {b0:Nat} {t e:TypeId} {v:Value} {d:DataW H} {ps:List MemPlace} {Q:List Value→Prop}
  (ht:P.underlying t=some (.slice e)) (hpos:0<P.cellsOf e) (hQ:∀fuel cs x,DataW.trod enc P W base (fun _=>true) held fuel e cs=some x→Q cs)
  (hval:Value.okWide P W r b0 t v) (hd:DataW.Trod enc P W base (fun _=>true) held t v d ps):
  ∃x:VArg,v=x.val∧x.ok (P.cellsOf e) W∧x.each (P.cellsOf e) Q:=by
 obtain⟨a1,len,cap,rfl⟩:=WideShapes.okWide_slice ht hval
 obtain⟨fuel,hf⟩:=hd
 generalize hz:P.cellsOf e=sz at*
 rcases DataW.trod_slice ht hf with⟨hcs,_⟩ | ⟨a,len',cap',elems,rest,n,_,hcs,_,hb,hl,hm,hlen,hel,hsp,_⟩
 ·simp only[Value.cells,List.cons.injEq,Value.slice.injEq,and_true] at hcs
  obtain⟨rfl,rfl,rfl⟩:=hcs
  exact⟨.none none,rfl,trivial,trivial⟩
 ·simp only[Value.cells,List.cons.injEq,Value.slice.injEq,and_true] at hcs
  obtain⟨rfl,rfl,rfl⟩:=hcs
  by_cases h0:cap=0
  ·subst h0
   have:len=0:=by omega
   subst this
   exact⟨.none (some a),rfl,trivial,trivial⟩
  ·rw[hz] at hel hsp
   obtain⟨hrl,hr⟩:=hsp rfl
   have each:∀i,i<cap→∃cs,W.cells? base (a.add (i*sz)) sz=some cs∧Q cs:=fun i hi=>by
    rcases Nat.lt_or_ge i len with h1 | h1
    ·have h2:=hel i h1
     rw[List.getElem?_eq_getElem (by omega),Option.bind_eq_some_iff] at h2
     obtain⟨cs,h3,h4⟩:=h2
     exact⟨cs,h3,hQ _ _ _ h4⟩
    ·have h2:=hr (i-len) (by omega)
     rw[List.getElem?_eq_getElem (by omega),Option.bind_eq_some_iff,show len+(i-len)=i by omega] at h2
     obtain⟨cs,h3,h4⟩:=h2
     exact⟨cs,h3,hQ _ _ _ h4⟩
   obtain⟨cs0,e1,_⟩:=each 0 (by omega)
   obtain⟨_,e2,e3⟩:=World.cells?_some e1
   have hc:=e3 0 hpos
   rw[List.getElem?_eq_getElem (show 0<cs0.length by omega)] at hc
   obtain⟨ab,ao,spot⟩:=a
   have hspot:spot=none:=by simpa [Addr.add] using World.cell?_spot hc
   subst hspot
   have cell:∀i,i<cap→∃cs:List Value,cs.length=sz∧Q cs∧∀j,j<sz→W.cell? ⟨ab,ao+(i*sz+j),none⟩=cs[j]? :=fun i hi=>by
    obtain⟨cs,h1,h2⟩:=each i hi
    obtain⟨_,h3,h4⟩:=World.cells?_some h1
    exact⟨cs,h3,h2,fun j hj=>by have:=h4 j hj;rw[Addr.add_eq,Addr.add_eq] at this;rw[←this,Nat.add_assoc]⟩
   obtain⟨cs0,k1,k2,k3⟩:=cell 0 (by omega)
   have hc0:=k3 0 hpos
   rw[List.getElem?_eq_getElem (by omega)] at hc0
   unfold World.cell? at hc0
   cases hh:W.heap[ab]? with
   | none=>simp[hh] at hc0
   | some o=>
    cases o with
    | cells C ty fr=>
     have hget:∀i,i<cap→∃cs:List Value,cs.length=sz∧Q cs∧∀j,j<sz→C.toList[ao+(i*sz+j)]? =cs[j]? :=fun i hi=>by
      obtain⟨cs,h1,h2,h3⟩:=cell i hi
      exact⟨cs,h1,h2,fun j hj=>by have:=h3 j hj;simpa [World.cell?,hh] using this⟩
     have hsz:ao+len*sz≤C.toList.length:=by
      obtain⟨cs,h1,h2,h3⟩:=hget (cap-1) (by omega)
      have h4:=h3 (sz-1) (by omega)
      rw[List.getElem?_eq_getElem (show sz-1<cs.length by omega)] at h4
      have h5:ao+((cap-1)*sz+(sz-1))<C.toList.length:=by
       rcases Nat.lt_or_ge (ao+((cap-1)*sz+(sz-1))) C.toList.length with h' | h'
       ·exact h'
       ·rw[List.getElem?_eq_none h'] at h4;cases h4
      have h6:cap*sz=(cap-1)*sz+sz:=by
       obtain⟨k,rfl⟩:∃k,cap=k+1:=⟨cap-1,by omega⟩
       rw[Nat.add_sub_cancel,Nat.add_mul,Nat.one_mul]
      have h7:=Nat.mul_le_mul_right sz hl
      omega
     have hvl:((C.toList.drop ao).take (len*sz)).length=len*sz:=by rw[List.length_take,List.length_drop];omega
     refine⟨.win ((C.toList.drop ao).take (len*sz)) len cap ty ⟨ab,ao,cap⟩,?_,⟨hvl,hl,rfl,hm,fr,C.toList.take ao,(C.toList.drop ao).drop (len*sz),?_,?_⟩,fun i hi=> ?_⟩
     ·simp[VArg.val,Loc.at]
     ·rw[List.take_append_drop,List.take_append_drop]
      simpa using hh
     ·show(C.toList.take ao).length=ao
      rw[List.length_take];omega
     ·obtain⟨cs,h1,h2,h3⟩:=hget i (by omega)
      have h4:=Nat.mul_le_mul_right sz (show i+1≤len by omega)
      rw[Nat.add_mul,Nat.one_mul] at h4
      have:(((C.toList.drop ao).take (len*sz)).drop (i*sz)).take sz=cs:=by
       apply List.ext_getElem?
       intro j
       rcases Nat.lt_or_ge j sz with hj | hj
       ·rw[List.getElem?_take_of_lt hj,List.getElem?_drop,List.getElem?_take_of_lt (by omega),List.getElem?_drop]
        exact h3 j hj
       ·rw[List.getElem?_eq_none (by rw[List.length_take];omega),List.getElem?_eq_none (by omega)]
      rw[this]
      exact h2
    | _=>simp[hh] at hc0
end Go.Proofs.YtdccehmekkcheaaDoor
