/- The executor: a call whose answer has two blocks of its own. -/
import Derived.Test.YtdccehmekkcheaaDoorCEngZ
set_option linter.unusedVariables false
namespace Go.Eng
open Go.RowKit
def ends2 (res:SV) (b1 b2:Blk) (r:SV) (mm:List Blk):Prop:=∃j1 j2,j1≠j2∧r=res.ren (fun i=>bif Nat.beq i 0 then j1 else j2)∧mm[j1]? =some b1∧mm[j2]? =some b2
theorem bG.add {G:Glob} {N:Nat} {w0:Base G} {m:PM} {β:Nat→Loc} {w:World} (hm:bG N w0 m β w) {k:Nat} (hk:m k=none) {loc:Loc} {b:Blk} (hids:b.row.ids=[]) {fr:Bool × Nat × Nat→Prop} (hb:∃fr pre C,w.heap[loc.a]? =some (.cells (pre++C).toArray b.ty fr)∧pre.length=loc.s∧b.row.is β loc.c C∧FrOk fr (pre++C).length) (hN:N≤loc.a) (hd:∀j c,m j=some c→(β j).a≠loc.a):
  bG N w0 (Eng.upd m k (some b)) (Eng.upd β k loc) w:=by
 have hne:∀j,(m j).isSome=true→j≠k:=fun j hj e=>by rw[e,hk] at hj;cases hj
 have hrow:∀(r':Row) n C,(∀j∈r'.ids,(m j).isSome=true)→(r'.is (Eng.upd β k loc) n C↔r'.is β n C):=fun r' n C hr=>
  Row.mH r' C fun j hj=>by simp[Eng.upd,hne j (hr j hj)]
 refine⟨hm.below,hm.size,?_,?_,?_,?_,hm.glob⟩
 ·intro j c hj
  simp only[Eng.upd] at hj ⊢
  by_cases e:j=k
  ·rw[if_pos e] at hj
   cases hj
   obtain⟨fr,pre,C,q1,q0,q2,q3⟩:=hb
   refine⟨fr,pre,C,by rw[if_pos e];exact q1,by rw[if_pos e];exact q0,?_,fun _=>⟨.inl (by rw[if_pos e];exact hN),q3⟩⟩
   rw[if_pos e]
   exact(Row.mH b.row C fun j hj=>by rw[hids] at hj;cases hj).1 q2
  ·rw[if_neg e] at hj
   obtain⟨fr',pre',C',p1,p0,p2,p3⟩:=hm.blk j c hj
   refine⟨fr',pre',C',by rw[if_neg e];exact p1,by rw[if_neg e];exact p0,?_,fun ho=>by rw[if_neg e];exact p3 ho⟩
   rw[if_neg e]
   exact(hrow c.row _ C' (hm.ids j c hj)).2 p2
 ·intro i j x c hi hj ho he
  simp only[Eng.upd] at hi hj he
  by_cases ei:i=k<;>by_cases ej:j=k
  ·rw[ei,ej]
  ·rw[if_pos ei,if_neg ej] at he
   rw[if_neg ej] at hj
   exact absurd he.symm (hd j c hj)
  ·rw[if_neg ei,if_pos ej] at he
   rw[if_neg ei] at hi
   exact absurd he (hd i x hi)
  ·rw[if_neg ei,if_neg ej] at he
   rw[if_neg ei] at hi
   rw[if_neg ej] at hj
   exact hm.inj i j x c hi hj ho he
 ·intro j c hj i hi
  simp only[Eng.upd] at hj ⊢
  by_cases e:j=k
  ·rw[if_pos e] at hj
   cases hj
   rw[hids] at hi;cases hi
  ·rw[if_neg e] at hj
   have:=hm.ids j c hj i hi
   rw[if_neg (hne i this)];exact this
 ·intro j x hj
  obtain⟨h1,h2⟩:=hm.fix j x hj
  simp only[Eng.upd]
  rw[if_neg (hne j h2),if_neg (hne j h2)]
  exact⟨h1,h2⟩
section
variable {G:Glob} {N:Nat} {w0:Base G} {m:PM} {κ σ:Nat→Nat} {χ:Nat→Option Nat} {l m':List Blk} {β β':Nat→Loc} {w w':World}
theorem hand_new2 (hm:bG N w0 m β w) (hown:∀b∈l,b.own=false) (hm':bG w.heap.size (⟨w,oO β κ l,nQ β κ σ χ l.length⟩:Base G) (fun k=>m'[k]?) β' w') {f:Nat} (hf:m f=none) (hf2:m (f+1)=none) {j1 j2:Nat} {b1 b2:Blk}
  (hne:j1≠j2) (h1:m'[j1]? =some b1) (h2:m'[j2]? =some b2) (o1:b1.own=true) (o2:b2.own=true) (i1:b1.row.ids=[]) (i2:b2.row.ids=[]):
  bG N w0 (Eng.upd (Eng.upd m f (some b1)) (f+1) (some b2)) (Eng.upd (Eng.upd β f (β' j1)) (f+1) (β' j2)) w':=by
 obtain⟨hl,hb⟩:=oq (κ:=κ) hm hown hm'
 have hx:∀a,¬oO β κ l a:=by
  rintro a ⟨i,b,hb,ho,_⟩
  rw[hown b (List.mem_of_getElem? hb)] at ho;cases ho
 have hge:∀{j b},m'[j]? =some b→b.own=true→w.heap.size≤(β' j).a:=fun {j b} hj ho=>by
  obtain⟨fr,pre,C,q1,q0,q2,q3⟩:=hm'.blk j _ hj
  rcases(q3 ho).1 with h | h
  ·exact h
  ·exact absurd h (hx _)
 have hat:∀(β'':Nat→Loc) {j b},m'[j]? =some b→b.own=true→b.row.ids=[]→∃fr pre C,w'.heap[(β' j).a]? =some (.cells (pre++C).toArray b.ty fr)∧pre.length=(β' j).s∧b.row.is β'' (β' j).c C∧FrOk fr (pre++C).length:=fun β'' {j b} hj ho hi=>by
  obtain⟨fr,pre,C,q1,q0,q2,q3⟩:=hm'.blk j _ hj
  exact⟨fr,pre,C,q1,q0,(Row.mH b.row C fun k hk=>by rw[hi] at hk;cases hk).1 q2,(q3 ho).2⟩
 have a1:=bG.add hl hf i1 (fr:=fun _=>True) (hat β h1 o1 i1) (Nat.le_trans hm.size (hge h1 o1)) (fun j c hj=>by
  have:=hm.lt hj
  have:=hge h1 o1
  omega)
 refine bG.add a1 (by simp[Eng.upd,hf2]) i2 (fr:=fun _=>True) (hat _ h2 o2 i2) (Nat.le_trans hm.size (hge h2 o2)) (fun j c hj=> ?_)
 simp only[Eng.upd] at hj ⊢
 by_cases e:j=f
 ·rw[if_pos e]
  intro he
  exact hne (hm'.inj j1 j2 b1 b2 h1 h2 o1 he)
 ·rw[if_neg e] at hj ⊢
  have:=hm.lt hj
  have:=hge h2 o2
  omega
end
section
variable {G:Glob} {P:Program} {T:Ty} {tm:List SV} {mem:List Blk} {Post:Ex→List SV→List Blk→Prop} {F:Nat} {ops:Array Oper} {l:List Oper}
theorem aS.call2 (hT:T.ok P) {d:Nat} {args:Array Operand} {ts:Array TypeId} {f:FuncId} {o:Oper} (ho:o.op= .call ⟨.value (.func f),args,ts⟩) (hds:o.dst=some d) (hgd:o.guard=none) (fn:Func) (hf:P.funcs[f]? =some fn) (h1:(fn.name== "runtime.NumGoroutine")=false) {c:Code} (hb:fn.body=some c) (pks:List PK) {ps:List aU} {κ:List fG} {c1:Cst}
  {r:SV} {b1 b2:Blk} (o1:b1.own=true) (o2:b2.own=true) (i1:b1.row.ids=[]) (i2:b2.row.ids=[]) (hr:∀k∈r.ids,k≤1)
  (hd:decL (fun k=>mem[k]?) [] pks (args.toList.map (jm tm))=some (ps,κ,c1)) (hc1:Holds c1) (hap:qG κ (bf ps)=true) (hown:∀b∈bf ps,b.own=false)
  (run:∀cap,invAll cap 0 ps→aF P G (bf ps).length c (aK fn (om cap 0 ps)) (bf ps) (aH T fn (ends2 r b1 b2)))
  (hp:aS P G F ops l (tm.set d (r.ren (fun i=>mem.length+i))) (mem++[b1,b2]) Post):aS P G F ops (o::l) tm mem Post:=by
 obtain⟨dst,op,ty,pos,af,gd⟩:=o
 simp only at ho hds hgd
 subst ho hds hgd
 intro N w0 β a w Q hF hrl hQ
 have hρ:=kW hrl.tmps
 have hm:=hrl.mem
 obtain⟨κ1,a1,a2,a3,a5,a4⟩:=vL hd hc1
 rw[List.nil_append] at a1
 subst a1
 have hentry:∀i b,(bf ps)[i]? =some b→∃e,κ[i]? =some e:=fun i b hb=>by
  have:i<κ.length:=by
   rw[a2]
   rcases Nat.lt_or_ge i (bf ps).length with h' | h'
   ·exact h'
   ·rw[List.getElem?_eq_none h'] at hb;cases hb
  exact⟨_,List.getElem?_eq_getElem this⟩
 have hh:Hand (fun k=>mem[k]?) (fun i=>(κ.getD i (0,0,none)).1) (fun i=>(κ.getD i (0,0,none)).2.1) (fun i=>(κ.getD i (0,0,none)).2.2) (bf ps):=by
  refine⟨?_,?_⟩
  ·intro i b hb
   obtain⟨e,he⟩:=hentry i b hb
   have hge:κ.getD i (0,0,none)=e:=by simp[List.getD,he]
   simp only[hge]
   obtain⟨bm,p1,p2,p3,p4⟩:=a3 i e b he hb
   exact⟨bm,p1,p2,.inl ⟨p3,p4⟩⟩
  ·intro i j b c hb hc ho he
   rcases Nat.lt_trichotomy i j with h' | h' | h'
   ·exact absurd he (nM hap a2 i j b c hb hc (.inl ho) h')
   ·exact h'
   ·exact absurd he.symm (nM hap a2 j i c b hc hb (.inr ho) h')
 have hkB:∀i e,κ[i]? =some e→gB β (fun i=>(κ.getD i (0,0,none)).1) (fun i=>(κ.getD i (0,0,none)).2.1) (fun i=>(κ.getD i (0,0,none)).2.2) i=entB β e:=fun i e he=>by
  have hge:κ.getD i (0,0,none)=e:=by simp[List.getD,he]
  simp only[gB,entB,hge]
 obtain⟨d1,d2⟩:=a4 hm _ hkB
 refine wpList_step fun K hK=> ?_
 rw[if_pos (by unfold Region.wanted;rfl)]
 have hargs:(((args.toList.map (jm tm))).map (SV.den β)).toArray=args.map a.eval:=by
  apply Array.ext'
  simp only[List.map_map,Array.toList_map]
  exact List.map_congr_left fun x _=>(hρ x).symm
 have hrun:(execOp a.eval ⟨some d,.call ⟨.value (.func f),args,ts⟩,ty,pos,af,none⟩).run P w=(callFunc f ((args.toList.map (jm tm)).map (SV.den β)).toArray).run P w:=by
  rw[hargs]
  have hf':a.eval (.func f)= .func (.func f) #[] #[]:=rfl
  simp[execOp,resolve,Deferred.ofValue,hf',invoke]
 unfold Oper.wp
 rw[hrun,iX hf h1 (by rw[hb];rfl) _ w,Oper.upon_enter,d1]
 refine(oM hT hf hb hh hm (fun x hx k hk=>by have:=sH d2 x hx k hk;simpa using this) (run _ d2)).mono ?_
 rintro en w' ⟨β',rr,mm,⟨j1,j2,hne,rfl,q1,q2⟩,rfl,hβ,hm'⟩
 have hn:=hand_new2 hm hown hm' (f:=mem.length) (by simp) (by simp) hne q1 q2 o1 o2 i1 i2
 have hβ2:∀k,k<mem.length→(Eng.upd (Eng.upd β mem.length (β' j1)) (mem.length+1) (β' j2)) k=β k:=fun k hk=>by
  simp only[Eng.upd]
  rw[if_neg (by omega),if_neg (by omega)]
 have hden:((r.ren (fun i=>mem.length+i)).den (Eng.upd (Eng.upd β mem.length (β' j1)) (mem.length+1) (β' j2)))=(r.ren (fun i=>bif Nat.beq i 0 then j1 else j2)).den β':=by
  rw[SV.jf,SV.jf]
  refine fE _ fun k hk=> ?_
  have:=hr k hk
  rcases Nat.lt_or_ge k 1 with h | h
  ·obtain rfl:k=0:=by omega
   simp[Eng.upd]
  ·obtain rfl:k=1:=by omega
   simp[Eng.upd]
   rfl
 have htm:tm.map (SV.den (Eng.upd (Eng.upd β mem.length (β' j1)) (mem.length+1) (β' j2)))=tm.map (SV.den β):=List.map_congr_left fun u hu=>fE u fun k hk=>hβ2 k (hrl.ids u hu k hk)
 refine hK _ _ (hp N w0 (Eng.upd (Eng.upd β mem.length (β' j1)) (mem.length+1) (β' j2)) _ w' Q hF ⟨?_,?_,?_,?_⟩ hQ)
 ·rw[←hden]
  have:a.tmps=(tm.map (SV.den (Eng.upd (Eng.upd β mem.length (β' j1)) (mem.length+1) (β' j2)))).toArray:=by rw[htm];exact hrl.tmps
  exact rz tm (some d) _ _ a this
 ·simpa [Act.put] using hrl.defers
 ·have e:(fun k=>(mem++[b1,b2])[k]?)=Eng.upd (Eng.upd (fun k=>mem[k]?) mem.length (some b1)) (mem.length+1) (some b2):=by
   funext k
   simp only[Eng.upd]
   by_cases h2:k=mem.length+1
   ·rw[if_pos h2,h2,List.getElem?_append_right (by omega)];simp
   ·rw[if_neg h2]
    by_cases h3:k=mem.length
    ·rw[if_pos h3,h3,List.getElem?_append_right (by omega)];simp
    ·rw[if_neg h3]
     rcases Nat.lt_or_ge k mem.length with h | h
     ·rw[List.getElem?_append_left h]
     ·rw[List.getElem?_eq_none (by simp;omega),List.getElem?_eq_none (by omega)]
  rw[e]
  exact hn
 ·refine r9 (tm:=tm) (d:=some d) (n:=mem.length) (n':=(mem++[b1,b2]).length) hrl.ids (by simp) fun k hk=> ?_
  obtain⟨j,hj,rfl⟩:=sW _ _ k hk
  have:=hr j hj
  rw[List.length_append]
  show mem.length+j<mem.length+2
  omega
end
end Go.Eng
