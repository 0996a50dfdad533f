/- An executor for Go code as a function, and its soundness against the rules of the walk: values, memory, each operation. -/
import Derived.WalkKit
import Derived.Orders
import Derived.Below
import Derived.ChangeKeysEq
import Derived.Laws.StructEq
import Derived.Laws.Append
import Derived.Laws.AppendOwn
import Derived.Laws.MakeOwn
import Derived.Laws.IdiomStrings
set_option linter.unusedSimpArgs false
set_option linter.unusedVariables false
namespace Go.Eng
open Go.RowKit
structure Loc where
 a:Nat
 s:Nat
 c:Nat
def Loc.at (l:Loc) (o:Nat):Addr:=⟨l.a,l.s+o,none⟩
inductive Atom where
 | v (x:Value)
 | ptr (k o:Nat)
 | ptd (k b o:Nat)
 | slc (k o len cap:Nat)
 | sld (k b o len cap:Nat)
 | slg (k len:Nat)
 | fn (f:Nat) (cap:List (Nat × Nat))
inductive SV1 where
 | a (x:Atom)
 | g (cs:List Atom)
inductive SV where
 | o (x:SV1)
 | t (xs:List SV1)
def Atom.den (β:Nat→Loc):Atom→Value
 | .v x=>x
 | .ptr k o=> .pointer (some ((β k).at (o)))
 | .ptd k b o=> .pointer (some ((β k).at (b+o)))
 | .slc k o l c=> .slice (some ((β k).at (o))) l c
 | .sld k b o l c=> .slice (some ((β k).at (b+o))) l c
 | .slg k l=> .slice (some ((β k).at (0))) l (β k).c
 | .fn f cap=> .func (.func f) #[] (cap.map fun p=>Value.pointer (some ((β p.1).at (p.2)))).toArray
def SV1.den (β:Nat→Loc):SV1→Value
 | .a x=>x.den β
 | .g cs=> .agg (cs.map (Atom.den β)).toArray
def SV.den (β:Nat→Loc):SV→Value
 | .o x=>x.den β
 | .t xs=> .tuple (xs.map (SV1.den β)).toArray
def Atom.one:Atom→Bool
 | .v x=>x.oneCell'
 | _=>true
def Atom.ids:Atom→List Nat
 | .v _=>[]
 | .ptr k _=>[k]
 | .ptd k _ _=>[k]
 | .slc k _ _ _=>[k]
 | .sld k _ _ _ _=>[k]
 | .slg k _=>[k]
 | .fn _ cap=>cap.map (·.1)
def bL:List Atom→List Nat
 | []=>[]
 | c::r=>c.ids++bL r
def SV1.ids:SV1→List Nat
 | .a x=>x.ids
 | .g cs=>bL cs
def idsT:List SV1→List Nat
 | []=>[]
 | c::r=>c.ids++idsT r
def SV.ids:SV→List Nat
 | .o x=>x.ids
 | .t xs=>idsT xs
def SV1.cells:SV1→List Atom
 | .a x=>[x]
 | .g cs=>cs
def jU:List Atom→Bool
 | []=>true
 | c::r=>c.one&&jU r
abbrev eu:SV:= .t []
inductive Row where
 | lit (cs:List Atom)
 | run (k:IntKind) (xs:List Int)
 | gro (k:IntKind) (xs:List Int) (lo:Nat) (hi:Option Nat)
 | pre (k:IntKind) (xs:List Int)
 | grv (s:Nat) (vs:List Value) (lo:Nat) (hi:Option Nat)
 | prv (vs:List Value)
instance:Coe (List Atom) Row:=⟨Row.lit⟩
def dx (k:IntKind) (xs:List Int):List Value:=xs.map (Value.int k)
def Row.ids:Row→List Nat
 | .lit cs=>bL cs
 | _=>[]
def Row.is (β:Nat→Loc) (room:Nat):Row→List Value→Prop
 | .lit cs,C=>C=cs.map (Atom.den β)
 | .run k xs,C=>C=dx k xs
 | .gro k xs lo hi,C=>∃tail,C=dx k xs++tail∧C.length=room∧lo≤room∧∀h,hi=some h→room<h
 | .pre k xs,C=>∃tail,C=dx k xs++tail
 | .grv s vs lo hi,C=>∃tail,C=vs++tail∧C.length=room*s∧lo≤room∧∀h,hi=some h→room<h
 | .prv vs,C=>∃tail,C=vs++tail
structure Blk where
 own:Bool
 ty:TypeId
 row:Row
inductive Sh where
 | plain (d:TypeDesc)
 | arr (n:Nat) (e:TypeId)
 | str (fs:List (Nat × TypeId))
structure TI where
 size:Nat
 zero:List Atom
 sh:Sh
 eqOk:Bool
def TI.agg (i:TI):Bool:=match i.sh with | .plain _=>false | _=>true
abbrev Ty:=List (TypeId × TI)
def Ty.get:Ty→TypeId→Option TI
 | [],_=>none
 | (t,i)::r,u=>if Nat.beq t u then some i else Ty.get r u
def Sh.ok (P:Program) (t:TypeId):Sh→Prop
 | .plain d=>P.underlying t=some d∧(match d with | .struct _ | .array _ _=>False | _=>True)
 | .arr n e=>P.underlying t=some (.array n e)
 | .str fs=>∃F,P.underlying t=some (.struct F)∧F.toList.map (fun f=>(f.offset,f.type))=fs
def loc0:Nat→Loc:=fun _=>⟨0,0,0⟩
def TI.ok (P:Program) (t:TypeId) (i:TI):Prop:=
 ((P.info? t).map (·.size)=some i.size)∧
 ((P.info? t).bind (·.zero)=some (if i.agg then Value.agg (i.zero.map (Atom.den loc0)).toArray else ((i.zero.map (Atom.den loc0)).getD 0 undef)))∧
 bL i.zero=[]∧jU i.zero=true∧(i.agg=false→i.zero.length=1)∧
 i.sh.ok P t∧(i.eqOk=true→P.eqGuardType P.depth t=false)
def Ty.ok (P:Program):Ty→Prop
 | []=>True
 | (t,i)::r=>TI.ok P t i∧Ty.ok P r
theorem Ty.dD {P:Program}:∀{T:Ty} {t:TypeId} {i:TI},Ty.ok P T→T.get t=some i→TI.ok P t i
 | [],_,_,_,h=>by simp[Ty.get] at h
 | (u,j)::r,t,i,⟨h1,h2⟩,h=>by
  unfold Ty.get at h
  split at h
  ·rename_i hb
   have:=Nat.eq_of_beq_eq_true hb
   subst this
   cases h
   exact h1
  ·exact Ty.dD h2 h
abbrev PM:=Nat→Option Blk
abbrev Glob:=Nat→Option (List Atom)
structure Base (G:Glob) where
 w:World
 X:Nat→Prop
 A:Nat→Option Loc
structure jc {G:Glob} (N:Nat) (b:Base G) (w':World):Prop where
 os:w'.os=b.w.os
 tape:w'.tape=b.w.tape
 output:w'.output=b.w.output
 size:b.w.heap.size≤w'.heap.size
 block:∀k,k<N→¬b.X k→w'.heap[k]? =b.w.heap[k]?
theorem jc.later {G:Glob} {N:Nat} {b:Base G} {w w':World} (h:jc N b w) (k:Below N w w'):jc N b w':=
 ⟨k.os.trans h.os,k.tape.trans h.tape,k.output.trans h.output,Nat.le_trans h.size k.size,fun i hi hx=>(k.block i hi).trans (h.block i hi hx)⟩
theorem jc.alloc {G:Glob} {N:Nat} {b:Base G} {w:World} (h:jc N b w) (hN:N≤w.heap.size) (o:Obj):jc N b (w.alloc o):=h.later ((Below.refl N w).alloc hN o)
theorem jc.drew {G:Glob} {N:Nat} {b:Base G} {w:World} (h:jc N b w):jc N b w.drew:=⟨h.os,h.tape,h.output,h.size,h.block⟩
theorem jc.of {G:Glob} {N:Nat} {w w':World} (h:Below N w w') (X:Nat→Prop) (A:Nat→Option Loc):jc N (⟨w,X,A⟩:Base G) w':=⟨h.os,h.tape,h.output,h.size,fun k hk _=>h.block k hk⟩
def FrOk (fr:Nat × Nat) (n:Nat):Prop:=fr.1=fr.2∨n≤fr.1
structure bG {G:Glob} (N:Nat) (w0:Base G) (m:PM) (β:Nat→Loc) (w:World):Prop where
 below:jc N w0 w
 size:N≤w.heap.size
 blk:∀k b,m k=some b→∃fr pre C,w.heap[(β k).a]? =some (.cells (pre++C).toArray b.ty fr)∧pre.length=(β k).s∧b.row.is β (β k).c C∧(b.own=true→(N≤(β k).a∨w0.X (β k).a)∧FrOk fr (pre++C).length)
 inj:∀j k b c,m j=some b→m k=some c→b.own=true→(β j).a=(β k).a→j=k
 ids:∀k b,m k=some b→∀j∈b.row.ids,(m j).isSome=true
 fix:∀k l,w0.A k=some l→β k=l∧(m k).isSome=true
 glob:∀g cs,G g=some cs→g<N∧¬w0.X g∧bL cs=[]∧∃ty fr,w0.w.heap[g]? =some (.cells (cs.map (Atom.den fun _=>⟨0,0,0⟩)).toArray ty fr)
def upd {α:Type} (f:Nat→α) (k:Nat) (v:α):Nat→α:=fun j=>if j=k then v else f j
inductive Eff where
 | none
 | new (b:Blk)
 | upd (k:Nat) (r:Row)
def Eff.app (m:PM) (fresh:Nat):Eff→PM
 | .none=>m
 | .new b=>Eng.upd m fresh (some b)
 | .upd k r=>fun j=>if j=k then (m k).map (fun b=>{ b with row:=r }) else m j
theorem vK {β β':Nat→Loc}:∀(c:Atom),(∀k∈c.ids,β' k=β k)→c.den β'=c.den β
 | .v _,_=>rfl
 | .ptr k o,h=>by simp[Atom.den,h k (by simp[Atom.ids])]
 | .ptd k b o,h=>by simp[Atom.den,h k (by simp[Atom.ids])]
 | .slc k o l c,h=>by simp[Atom.den,h k (by simp[Atom.ids])]
 | .sld k b o l c,h=>by simp[Atom.den,h k (by simp[Atom.ids])]
 | .slg k l,h=>by simp[Atom.den,h k (by simp[Atom.ids])]
 | .fn f cap,h=>by
  simp only[Atom.den,Value.func.injEq,true_and]
  congr 1
  apply List.map_congr_left
  intro p hp
  rw[h p.1 (by simp only[Atom.ids,List.mem_map];exact⟨p,hp,rfl⟩)]
theorem mO {β β':Nat→Loc}:∀(cs:List Atom),(∀k∈bL cs,β' k=β k)→cs.map (Atom.den β')=cs.map (Atom.den β)
 | [],_=>rfl
 | c::r,h=>by
  simp only[List.map_cons]
  rw[vK c fun k hk=>h k (by simp[bL,hk]),mO r fun k hk=>h k (by simp[bL,hk])]
theorem den1_congr {β β':Nat→Loc} (x:SV1) (h:∀k∈x.ids,β' k=β k):x.den β'=x.den β:=by
 cases x with
 | a x=>exact vK x h
 | g cs=>simp only[SV1.den];rw[mO cs h]
theorem denT_congr {β β':Nat→Loc}:∀(xs:List SV1),(∀k∈idsT xs,β' k=β k)→xs.map (SV1.den β')=xs.map (SV1.den β)
 | [],_=>rfl
 | c::r,h=>by
  simp only[List.map_cons]
  rw[den1_congr c fun k hk=>h k (by simp[idsT,hk]),denT_congr r fun k hk=>h k (by simp[idsT,hk])]
theorem fE {β β':Nat→Loc} (x:SV) (h:∀k∈x.ids,β' k=β k):x.den β'=x.den β:=by
 cases x with
 | o x=>exact den1_congr x h
 | t xs=>simp only[SV.den];rw[denT_congr xs h]
theorem jy {c:Atom} {cs:List Atom} (h:c∈cs) {k:Nat} (hk:k∈c.ids):k∈bL cs:=by
 induction cs with
 | nil=>cases h
 | cons d r ih=>
  simp only[bL,List.mem_append]
  rcases List.mem_cons.1 h with rfl | h
  ·exact .inl hk
  ·exact .inr (ih h)
theorem lM {cs:List Atom} {k:Nat} (h:k∈bL cs):∃c∈cs,k∈c.ids:=by
 induction cs with
 | nil=>cases h
 | cons d r ih=>
  simp only[bL,List.mem_append] at h
  rcases h with h | h
  ·exact⟨d,by simp,h⟩
  ·obtain⟨c,hc,hk⟩:=ih h;exact⟨c,by simp[hc],hk⟩
theorem Row.mH {β β':Nat→Loc} {n:Nat}:∀(r:Row) (C:List Value),(∀k∈r.ids,β' k=β k)→(r.is β' n C↔r.is β n C)
 | .lit cs,C,h=>by simp only[Row.is,mO (β:=β) (β':=β') cs h]
 | .run k xs,C,h=>Iff.rfl
 | .gro k xs lo hi,C,h=>Iff.rfl
 | .pre k xs,C,h=>Iff.rfl
 | .grv s vs lo hi,C,h=>Iff.rfl
 | .prv vs,C,h=>Iff.rfl
theorem bG.newF {G:Glob} {N:Nat} {w0:Base G} {w:World} {m:PM} {β:Nat→Loc} (h:bG N w0 m β w) {k:Nat} (hk:m k=none) {t:TypeId} {r:Row} {C:List Value} {c:Nat} (own:Bool) (fr0:Nat × Nat) (hown:own=true→FrOk fr0 C.length)
  (hC:r.is β c C) (hi:∀j∈r.ids,(m j).isSome=true):
  bG N w0 (Eng.upd m k (some ⟨own,t,r⟩)) (Eng.upd β k ⟨w.heap.size,0,c⟩) (w.alloc (.cells C.toArray t fr0)):=by
 have hne:∀j,(m j).isSome=true→j≠k:=fun j hj e=>by rw[e,hk] at hj;cases hj
 have hlt:∀j b,m j=some b→(β j).a<w.heap.size:=fun j b hj=>by
  obtain⟨fr,pre,C,h1,_⟩:=h.blk j b hj
  rcases Nat.lt_or_ge (β j).a w.heap.size with h' | h'
  ·exact h'
  ·rw[Array.getElem?_eq_none h'] at h1;cases h1
 have hrow:∀(r:Row) n C,(∀j∈r.ids,(m j).isSome=true)→(r.is (Eng.upd β k ⟨w.heap.size,0,c⟩) n C↔r.is β n C):=fun r n C hr=>
  Row.mH r C fun j hj=>by simp[Eng.upd,hne j (hr j hj)]
 refine⟨h.below.alloc h.size _,by have:=h.size;simp;omega,?_,?_,?_,?_,h.glob⟩
 ·intro j b hj
  unfold Eng.upd at hj
  by_cases e:j=k
  ·rw[if_pos e] at hj
   cases hj
   refine⟨fr0,[],C,?_,?_,?_,fun ho=>⟨.inl (by simp[Eng.upd,e];exact h.size),by simpa using hown ho⟩⟩
   ·simp only[Eng.upd,e,if_true]
    exact heap_alloc_new w _
   ·simp[Eng.upd,e]
   ·rw[hrow r _ C hi]
    simpa [Eng.upd,e] using hC
  ·rw[if_neg e] at hj
   obtain⟨fr,pre,C',h1,h0,h3,h2⟩:=h.blk j b hj
   refine⟨fr,pre,C',?_,by simpa [Eng.upd,e] using h0,?_,fun ho=>by simpa [Eng.upd,e] using h2 ho⟩
   ·simp only[Eng.upd,e,if_false]
    rw[Below.heap_alloc w _ _ (hlt j b hj)]
    exact h1
   ·rw[hrow b.row _ C' (h.ids j b hj)]
    simpa [Eng.upd,e] using h3
 ·intro i j b c' hib hjc ho he
  simp only[Eng.upd] at hib hjc he
  by_cases ei:i=k<;>by_cases ej:j=k
  ·rw[ei,ej]
  ·rw[if_pos ei,if_neg ej] at he
   rw[if_neg ej] at hjc
   have:=hlt j c' hjc
   simp only at he
   omega
  ·rw[if_neg ei,if_pos ej] at he
   rw[if_neg ei] at hib
   have:=hlt i b hib
   simp only at he
   omega
  ·rw[if_neg ei,if_neg ej] at he
   rw[if_neg ei] at hib
   rw[if_neg ej] at hjc
   exact h.inj i j b c' hib hjc ho he
 ·intro j b hj i hib
  simp only[Eng.upd] at hj ⊢
  by_cases e:j=k
  ·rw[if_pos e] at hj
   cases hj
   have:=hi i hib
   rw[if_neg (hne i this)];exact this
  ·rw[if_neg e] at hj
   have:=h.ids j b hj i hib
   rw[if_neg (hne i this)];exact this
 ·intro j l hj
  obtain⟨h1,h2⟩:=h.fix j l hj
  simp only[Eng.upd]
  rw[if_neg (hne j h2),if_neg (hne j h2)]
  exact⟨h1,h2⟩
theorem bG.new {G:Glob} {N:Nat} {w0:Base G} {w:World} {m:PM} {β:Nat→Loc} (h:bG N w0 m β w) {k:Nat} (hk:m k=none) {t:TypeId} {r:Row} {C:List Value} {c:Nat}
  (hC:r.is β c C) (hi:∀j∈r.ids,(m j).isSome=true):
  bG N w0 (Eng.upd m k (some ⟨true,t,r⟩)) (Eng.upd β k ⟨w.heap.size,0,c⟩) (w.alloc (.cells C.toArray t)):=
 h.newF hk true (0,0) (fun _=> .inl rfl) hC hi
theorem Addr.add_eq (b o n:Nat):(⟨b,o,none⟩:Addr).add n=⟨b,o+n,none⟩:=by
 unfold Addr.add
 split
 ·rename_i h;subst h;rfl
 ·rfl
theorem Loc.gL (l:Loc) (o n:Nat):(l.at o).add n=l.at (o+n):=by
 unfold Loc.at
 rw[Addr.add_eq,Nat.add_assoc]
theorem bG.set {G:Glob} {N:Nat} {w0:Base G} {w w':World} {m:PM} {β:Nat→Loc} (h:bG N w0 m β w) {k:Nat} {b:Blk} (hk:m k=some b) (ho:b.own=true) {r:Row} {pre C:List Value} (hp:pre.length=(β k).s)
  (hC:r.is β (β k).c C) (hi:∀j∈r.ids,(m j).isSome=true) (hb:jc N w0 w') (hs:w'.heap.size=w.heap.size)
  (hw:∀i,i≠(β k).a→w'.heap[i]? =w.heap[i]?) {fr:Nat × Nat} (hfr:FrOk fr (pre++C).length) (hw':w'.heap[(β k).a]? =some (.cells (pre++C).toArray b.ty fr)):
  bG N w0 (Eff.app m 0 (.upd k r)) β w':=by
 refine⟨hb,by rw[hs];exact h.size,?_,?_,?_,?_,h.glob⟩
 ·intro j c hj
  simp only[Eff.app] at hj
  by_cases e:j=k
  ·rw[if_pos e,hk] at hj
   cases hj
   subst e
   obtain⟨fr',pre',C',h1,h0,h3,h2⟩:=h.blk j b hk
   exact⟨fr,pre,C,hw',hp,hC,fun _=>⟨(h2 ho).1,hfr⟩⟩
  ·rw[if_neg e] at hj
   obtain⟨fr,pre',C',h1,h0,h3,h2⟩:=h.blk j c hj
   exact⟨fr,pre',C',by rw[hw (β j).a fun ee=>e (h.inj k j b c hk hj ho ee.symm).symm];exact h1,h0,h3,h2⟩
 ·intro i j c d hic hjd hoc he
  simp only[Eff.app] at hic hjd
  have g1:∃c',m i=some c'∧c'.own=true:=by
   by_cases e:i=k
   ·exact⟨b,by rw[e];exact hk,ho⟩
   ·rw[if_neg e] at hic;exact⟨c,hic,hoc⟩
  have g2:∃d',m j=some d':=by
   by_cases e:j=k
   ·exact⟨b,by rw[e];exact hk⟩
   ·rw[if_neg e] at hjd;exact⟨d,hjd⟩
  obtain⟨c',hc',hoc'⟩:=g1
  obtain⟨d',hd'⟩:=g2
  exact h.inj i j c' d' hc' hd' hoc' he
 ·intro j c hj i hic
  have some_of:∀i,(m i).isSome=true→(Eff.app m 0 (.upd k r) i).isSome=true:=fun i hs=>by
   simp only[Eff.app]
   by_cases e:i=k
   ·rw[if_pos e,hk];rfl
   ·rw[if_neg e];exact hs
  apply some_of
  simp only[Eff.app] at hj
  by_cases e:j=k
  ·rw[if_pos e,hk] at hj
   cases hj
   exact hi i hic
  ·rw[if_neg e] at hj
   exact h.ids j c hj i hic
 ·intro j l hj
  obtain⟨h1,h2⟩:=h.fix j l hj
  refine⟨h1,?_⟩
  simp only[Eff.app]
  by_cases e:j=k
  ·rw[if_pos e,hk];rfl
  ·rw[if_neg e];exact h2
theorem bG.later {G:Glob} {N:Nat} {w0:Base G} {w w':World} {m:PM} {β:Nat→Loc} (h:bG N w0 m β w) (hb:Below w.heap.size w w'):bG N w0 m β w':=by
 refine⟨h.below.later (hb.mono h.size),Nat.le_trans h.size hb.size,?_,h.inj,h.ids,h.fix,h.glob⟩
 intro k b hk
 obtain⟨fr,pre,C,h1,h0,h3,h2⟩:=h.blk k b hk
 refine⟨fr,pre,C,?_,h0,h3,h2⟩
 rw[hb.block (β k).a ?_]
 ·exact h1
 ·rcases Nat.lt_or_ge (β k).a w.heap.size with h' | h'
  ·exact h'
  ·rw[Array.getElem?_eq_none h'] at h1;cases h1
theorem bG.drawn {G:Glob} {N:Nat} {w0:Base G} {w:World} {m:PM} {β:Nat→Loc} (h:bG N w0 m β w):bG N w0 m β w.drew:=h.later ((Below.refl _ _).drew)
abbrev aG (k:IntKind) (n:Int):Atom:= .v (.int k n)
abbrev fH (b:Bool):Atom:= .v (.bool b)
def eLoad (T:Ty) (m:PM) (t:TypeId):SV→Option SV
 | .o (.a (.ptr k o))=>match T.get t with
  | some i=>match m k with
   | some ⟨_,_,.lit cs⟩=>match i.agg with
    | true=>if Nat.ble (o+i.size) cs.length then some (.o (.g ((cs.drop o).take i.size))) else none
    | false=>match cs[o]? with
     | some c=>some (.o (.a c))
     | none=>none
   | _=>none
  | none=>none
 | _=>none
def qC (T:Ty) (m:PM) (t:TypeId) (x y:SV):Option Eff:=
 match x,y with
 | .o (.a (.ptr k o)),.o y=>match T.get t with
  | some i=>match m k with
   | some ⟨own,_,.lit cs⟩=>if own&&Nat.beq y.cells.length i.size&&Nat.ble (o+i.size) cs.length&&jU y.cells then
     some (.upd k (.lit (cs.take o++(y.cells++cs.drop (o+i.size))))) else none
   | _=>none
  | none=>none
 | _,_=>none
def eInt (op:BinOp) (k:IntKind) (a:Int) (kb:IntKind) (b:Int):Option Atom:=
 match op with
 | .shl=>if b<0 then none else some (aG k (k.wrap (a*2^(min b.toNat k.bits))))
 | .shr=>if b<0 then none else some (aG k (a.fdiv (2^(min b.toNat k.bits))))
 | op=>if k=kb then
   match op with
   | .add=>some (aG k (k.wrap (a+b)))
   | .sub=>some (aG k (k.wrap (a-b)))
   | .mul=>some (aG k (k.wrap (a*b)))
   | .quo=>if b=0 then none else some (aG k (k.wrap (a.tdiv b)))
   | .rem=>if b=0 then none else some (aG k (a.tmod b))
   | .and=>some (aG k (bits .and k a b))
   | .or=>some (aG k (bits .or k a b))
   | .xor=>some (aG k (bits .xor k a b))
   | .andNot=>some (aG k (bits .andNot k a b))
   | .eql=>some (fH (a==b))
   | .neq=>some (fH (a !=b))
   | .lss=>some (fH (a<b))
   | .leq=>some (fH (a≤b))
   | .gtr=>some (fH (a>b))
   | .geq=>some (fH (a≥b))
   | _=>none
  else none
def jW:List Atom→List Atom→Option Bool
 | [],[]=>some true
 | .v (.int k a)::xs,.v (.int k' b)::ys=>if k=k' then
   match jW xs ys with
   | some r=>some ((a==b)&&r)
   | none=>none
  else none
 | _,_=>none
def eBin (T:Ty) (op:BinOp) (t:TypeId) (x y:SV):Option SV:=
 match x,y with
 | .o (.a (.v (.int k a))),.o (.a (.v (.int kb b)))=>match eInt op k a kb b with
  | some r=>some (.o (.a r))
  | none=>none
 | .o (.a (.v (.bool a))),.o (.a (.v (.bool b)))=>match T.get t with
  | some ⟨_,_,.plain .bool,_⟩=>match op with
   | .eql=>some (.o (.a (fH (a==b))))
   | .neq=>some (.o (.a (fH (!(a==b)))))
   | _=>none
  | _=>none
 | .o (.g xs),.o (.g ys)=>match T.get t with
  | some ⟨_,_,.arr n e,true⟩=>match T.get e with
   | some ⟨1,_,.plain (.int _),_⟩=>match Nat.beq xs.length n,jW xs ys with
    | true,some r=>match op with
     | .eql=>some (.o (.a (fH r)))
     | .neq=>some (.o (.a (fH (!r))))
     | _=>none
    | _,_=>none
   | _=>none
  | _=>none
 | _,_=>none
def eUn (op:UnOp):SV→Option SV
 | .o (.a (.v (.int k n)))=>match op with
  | .neg=>some (.o (.a (aG k (k.wrap (0-n)))))
  | .xor=>some (.o (.a (aG k (bits .xor k (if k.signed then-1 else k.max) n))))
  | _=>none
 | .o (.a (.v (.bool b)))=>match op with
  | .not=>some (.o (.a (fH (!b))))
  | _=>none
 | _=>none
def eConv (T:Ty) (s d:TypeId):SV→Option SV
 | .o (.a (.v (.int k n)))=>match T.get s,T.get d with
  | some _,some ⟨_,_,.plain (.int k'),_⟩=>some (.o (.a (aG k' (k'.wrap n))))
  | _,_=>none
 | _=>none
section
variable (T:Ty) (t:TypeId)
def ePart (cs:List Atom) (off:Nat):Option SV:=
 match T.get t with
 | some i=>match i.agg with
  | true=>if Nat.ble (off+i.size) cs.length then some (.o (.g ((cs.drop off).take i.size))) else none
  | false=>match cs[off]? with
   | some c=>some (.o (.a c))
   | none=>none
 | none=>none
def uI (x ix:SV):Option SV:=
 match x,ix with
 | .o (.a (.ptr k o)),.o (.a (.v (.int _ n)))=>match T.get t with
  | some ⟨_,_,.arr len e,_⟩=>match T.get e with
   | some i=>if 0≤n∧n<len then some (.o (.a (.ptr k (o+n.toNat*i.size)))) else none
   | none=>none
  | _=>none
 | .o (.a (.slc k o len _)),.o (.a (.v (.int _ n)))=>match T.get t with
  | some ⟨_,_,.plain (.slice e),_⟩=>match T.get e with
   | some i=>if 0≤n∧n<len then some (.o (.a (.ptr k (o+n.toNat*i.size)))) else none
   | none=>none
  | _=>none
 | _,_=>none
def eIndex (x ix:SV):Option SV:=
 match x,ix with
 | .o (.g cs),.o (.a (.v (.int _ n)))=>match T.get t with
  | some ⟨_,_,.arr len e,_⟩=>match T.get e with
   | some i=>if 0≤n∧n<len then ePart T e cs (n.toNat*i.size) else none
   | none=>none
  | _=>none
 | _,_=>none
def uJ (x:SV) (f:Nat):Option SV:=
 match x with
 | .o (.a (.ptr k o))=>match T.get t with
  | some ⟨_,_,.str fs,_⟩=>match fs[f]? with
   | some (off,ft)=>match T.get ft with
    | some ⟨_+1,_,_,_⟩=>some (.o (.a (.ptr k (o+off))))
    | _=>none
   | none=>none
  | _=>none
 | _=>none
def eField (x:SV) (f:Nat):Option SV:=
 match x with
 | .o (.g cs)=>match T.get t with
  | some ⟨_,_,.str fs,_⟩=>match fs[f]? with
   | some (off,ft)=>ePart T ft cs off
   | none=>none
  | _=>none
 | _=>none
end
def setAll (cells:List Atom) (off:Nat):List Atom→List Atom
 | []=>cells
 | c::r=>setAll (cells.set off c) (off+1) r
def nk (T:Ty) (place:Nat→Option (Nat × Nat)) (ρ:Operand→SV) (cells:List Atom):List (Nat × Operand)→Option (List Atom)
 | []=>some cells
 | (i,x)::rest=>match ρ x with
  | .o y=>match place i with
   | some (off,size)=>if Nat.beq y.cells.length size&&Nat.ble (off+size) cells.length&&jU y.cells then nk T place ρ (setAll cells off y.cells) rest else none
   | none=>none
  | .t _=>none
def placeOf (T:Ty) (fs:List (Nat × TypeId)) (i:Nat):Option (Nat × Nat):=
 match fs[i]? with
 | some (off,ft)=>match T.get ft with
  | some j=>some (off,j.size)
  | none=>none
 | none=>none
def eBuild (T:Ty) (ρ:Operand→SV) (t:TypeId) (parts:List (Nat × Operand)):Option SV:=
 match T.get t with
 | some ⟨_,z,.str fs,_⟩=>
  match nk T (placeOf T fs) ρ z parts with
  | some cs=>if fs.all (fun f=>(T.get f.2).isSome) then some (.o (.g cs)) else none
  | none=>none
 | some ⟨_,z,.arr _ e,_⟩=>match T.get e with
  | some j=>match nk T (fun i=>some (i*j.size,j.size)) ρ z parts with
   | some cs=>some (.o (.g cs))
   | none=>none
  | none=>none
 | _=>none
def uK:SV→Nat→Option SV
 | .t xs,i=>match xs[i]? with
  | some y=>some (.o y)
  | none=>none
 | _,_=>none
def eCaps (ρ:Operand→SV):List Operand→Option (List (Nat × Nat))
 | []=>some []
 | x::r=>match ρ x,eCaps ρ r with
  | .o (.a (.ptr k o)),some l=>some ((k,o)::l)
  | _,_=>none
def mM (ρ:Operand→SV) (d:Nat):Option Operand→Option Nat
 | none=>some d
 | some x=>match ρ x with
  | .o (.a (.v (.int _ n)))=>if 0≤n then some n.toNat else none
  | _=>none
def eSlice (T:Ty) (ρ:Operand→SV) (t:TypeId) (x:SV) (lo hi:Option Operand):Option SV:=
 match x with
 | .o (.a (.ptr k o))=>match T.get t with
  | some ⟨_,_,.arr n e,_⟩=>match T.get e,mM ρ 0 lo,mM ρ n hi with
   | some i,some l,some h=>if Nat.ble l h&&Nat.ble h n then some (.o (.a (.slc k (if n=l then o else o+l*i.size) (h-l) (n-l)))) else none
   | _,_,_=>none
  | _=>none
 | .o (.a (.slc k o len cap))=>match T.get t with
  | some ⟨_,_,.plain (.slice e),_⟩=>match T.get e,mM ρ 0 lo,mM ρ len hi with
   | some i,some l,some h=>if Nat.ble l h&&Nat.ble h cap then some (.o (.a (.slc k (if cap=l then o else o+l*i.size) (h-l) (cap-l)))) else none
   | _,_,_=>none
  | _=>none
 | _=>none
def eOp (T:Ty) (ρ:Operand→SV) (m:PM) (fresh:Nat):Op→Option (SV × Eff)
 | .move x | .assign x=>some (ρ x,.none)
 | .pick c a b=>match ρ c with
  | .o (.a (.v (.bool t)))=>some (match t with | true=>ρ a | false=>ρ b,.none)
  | _=>none
 | .alloc t=>match T.get t with
  | some i=>some (.o (.a (.ptr fresh 0)),.new ⟨true,t,i.zero⟩)
  | none=>none
 | .box t x=>match ρ x with
  | .o y=>if jU y.cells then some (.o (.a (.ptr fresh 0)),.new ⟨true,t,y.cells⟩) else none
  | .t _=>none
 | .build t parts=>match eBuild T ρ t parts.toList with
  | some v=>some (v,.none)
  | none=>none
 | .load t x=>match eLoad T m t (ρ x) with
  | some v=>some (v,.none)
  | none=>none
 | .store t x y=>match qC T m t (ρ x) (ρ y) with
  | some e=>some (eu,e)
  | none=>none
 | .nilCheck x=>match ρ x with
  | .o (.a (.ptr k o))=>some (.o (.a (.ptr k o)),.none)
  | _=>none
 | .binOp op t x y _=>match eBin T op t (ρ x) (ρ y) with
  | some v=>some (v,.none)
  | none=>none
 | .unOp op _ x=>match eUn op (ρ x) with
  | some v=>some (v,.none)
  | none=>none
 | .convert s d x=>match eConv T s d (ρ x) with
  | some v=>some (v,.none)
  | none=>none
 | .fieldAddr t x f=>match uJ T t (ρ x) f with
  | some v=>some (v,.none)
  | none=>none
 | .field t x f=>match eField T t (ρ x) f with
  | some v=>some (v,.none)
  | none=>none
 | .indexAddr t x i=>match uI T t (ρ x) (ρ i) with
  | some v=>some (v,.none)
  | none=>none
 | .index t x i=>match eIndex T t (ρ x) (ρ i) with
  | some v=>some (v,.none)
  | none=>none
 | .extract x i=>match uK (ρ x) i with
  | some v=>some (v,.none)
  | none=>none
 | .makeFunc (.func f) first cap=>if first.isEmpty then
   match eCaps ρ cap.toList with
   | some l=>some (.o (.a (.fn f l)),.none)
   | none=>none
  else none
 | .slice t x lo hi none=>match eSlice T ρ t (ρ x) lo hi with
  | some v=>some (v,.none)
  | none=>none
 | .call ⟨.builtin .len,args,argTypes⟩=>match args.toList,argTypes.toList with
  | [x],[t]=>match T.get t with
   | some ⟨_,_,.arr n _,_⟩=>some (.o (.a (aG .i64 n)),.none)
   | some ⟨_,_,.plain (.slice _),_⟩=>match ρ x with
    | .o (.a (.slc _ _ n _))=>some (.o (.a (aG .i64 n)),.none)
    | _=>none
   | _=>none
  | _,_=>none
 | _=>none
section
variable {P:Program} {T:Ty} (hT:T.ok P)
include hT
theorem bS {t:TypeId} {i:TI} (h:T.get t=some i) (w:World):(sizeOf t).run P w= .ok i.size w:=by
 have h1:=(Ty.dD hT h).1
 cases hq:P.info? t with
 | none=>rw[hq] at h1;cases h1
 | some j=>
  rw[hq] at h1
  have:j.size=i.size:=by simpa using h1
  simp[sizeOf,typeInfo,hq,this]
theorem mV {t:TypeId} {i:TI} (h:T.get t=some i) (w:World):(isAgg t).run P w= .ok i.agg w:=by
 have h1:=(Ty.dD hT h).2.2.2.2.2.1
 unfold isAgg TI.agg
 rw[Sem.run_bind]
 cases hs:i.sh with
 | plain d=>
  rw[hs] at h1
  obtain⟨h2,h3⟩:=h1
  rw[run_underlying h2]
  cases d<;>first | rfl | exact h3.elim
 | arr n e=>
  rw[hs] at h1
  rw[run_underlying (show P.underlying t=some (.array n e) from h1)]
  rfl
 | str fs=>
  rw[hs] at h1
  obtain⟨F,h2,h3⟩:=h1
  rw[run_underlying h2]
  rfl
theorem tZ {t:TypeId} {i:TI} (h:T.get t=some i) (w:World):
  (zeroValue t).run P w= .ok (if i.agg then Value.agg (i.zero.map (Atom.den loc0)).toArray else ((i.zero.map (Atom.den loc0)).getD 0 undef)) w:=by
 have h1:=(Ty.dD hT h).2.1
 cases hq:P.info? t with
 | none=>rw[hq] at h1;cases h1
 | some j=>
  rw[hq] at h1
  have h2:j.zero=_:=h1
  simp[zeroValue,typeInfo,hq,h2]
theorem zero_den {t:TypeId} {i:TI} (h:T.get t=some i) (β:Nat→Loc):i.zero.map (Atom.den β)=i.zero.map (Atom.den loc0):=by
 have h1:=(Ty.dD hT h).2.2.1
 exact mO _ fun k hk=>by rw[h1] at hk;cases hk
end
theorem rU (x:Atom) (h:x.one=true) (β:Nat→Loc):(x.den β).cells= #[x.den β]∧(x.den β).oneCell'=true:=by
 cases x with
 | v y=>cases y<;>first | (simp[Atom.one,Value.oneCell'] at h;done) | exact⟨rfl,rfl⟩
 | ptr k o=>exact⟨rfl,rfl⟩
 | ptd k b o=>exact⟨rfl,rfl⟩
 | slc k o l c=>exact⟨rfl,rfl⟩
 | sld k b o l c=>exact⟨rfl,rfl⟩
 | slg k l=>exact⟨rfl,rfl⟩
 | fn f cap=>exact⟨rfl,rfl⟩
theorem oneAll_mem {cs:List Atom} (h:jU cs=true):∀c∈cs,c.one=true:=by
 induction cs with
 | nil=>intro c hc;cases hc
 | cons d r ih=>
  simp only[jU,Bool.and_eq_true] at h
  intro c hc
  rcases List.mem_cons.1 hc with rfl | hc
  ·exact h.1
  ·exact ih h.2 c hc
theorem qE (y:SV1) (h:jU y.cells=true) (β:Nat→Loc):(y.den β).cells=(y.cells.map (Atom.den β)).toArray:=by
 cases y with
 | a x=>exact(rU x (by simpa [SV1.cells,jU] using h) β).1
 | g cs=>rfl
theorem sS {P:Program} (b o:Nat) (ty:TypeId) (fr:Nat × Nat):∀(vs:List Value) (i:Nat) (w:World) (C:List Value),w.heap[b]? =some (.cells C.toArray ty fr)→o+i+vs.length≤C.length→FrOk fr C.length→
  (∀v∈vs,v.oneCell'=true)→∃w',(storeCells ⟨b,o,none⟩ vs i).run P w= .ok () w'∧w'.heap.size=w.heap.size∧(∀j,j≠b→w'.heap[j]? =w.heap[j]?)∧
   w'.heap[b]? =some (.cells (C.take (o+i)++(vs++C.drop (o+i+vs.length))).toArray ty fr)∧w'.os=w.os∧w'.tape=w.tape∧w'.output=w.output
 | [],i,w,C,hC,hl,_,_=>⟨w,by simp[storeCells],rfl,fun _ _=>rfl,by simpa using hC,rfl,rfl,rfl⟩
 | v::vs,i,w,C,hC,hl,hfr,h1=>by
  simp only[List.length_cons] at hl
  have hc:w.cell? ⟨b,o+i,none⟩=C[o+i]? :=by simp[World.cell?,hC]
  have hlt:o+i<C.length:=by omega
  rw[List.getElem?_eq_getElem hlt] at hc
  have hf:w.frozen? ⟨b,o+i,none⟩=false:=by
   obtain⟨lo,hi⟩:=fr
   simp only[World.frozen?,hC]
   rcases hfr with h | h
   ·simp only at h;subst h;simp
    try omega
   ·simp only at h;simp;omega
  have hone:=h1 v (by simp)
  have hst:(store ((⟨b,o,none⟩:Addr).add i) v).run P w= .ok () (w.setCell ⟨b,o+i,none⟩ v):=by
   rw[Addr.add_eq,run_store P w _ v _ hone,hc]
   simp[hf]
  have hC':(w.setCell ⟨b,o+i,none⟩ v).heap[b]? =some (.cells (C.set (o+i) v).toArray ty fr):=by
   simp[World.setCell,Array.getElem?_modify,hC]
  obtain⟨w',r1,r2,r3,r4,r5,r6,r7⟩:=sS (P:=P) b o ty fr vs (i+1) (w.setCell ⟨b,o+i,none⟩ v) (C.set (o+i) v) hC' (by simp;omega) (by rw[List.length_set];exact hfr) (fun u hu=>h1 u (by simp[hu]))
  refine⟨w',?_,by rw[r2];simp,?_,?_,r5,r6,r7⟩
  ·simp only[storeCells,Sem.run_bind,hst,Result.andThen_ok]
   exact r1
  ·intro j hj
   rw[r3 j hj]
   exact Below.heap_setCell _ _ _ _ hj
  ·rw[r4]
   congr 3
   rw[show o+(i+1)=o+i+1 by omega]
   rw[List.take_set,List.drop_set_of_lt (by omega)]
   simp only[List.length_cons,List.cons_append]
   rw[show o+i+1+vs.length=o+i+(vs.length+1) by omega]
   rw[List.take_succ_eq_append_getElem hlt]
   rw[List.set_append_right _ _ (by simp;omega)]
   simp[show min (o+i) C.length=o+i by omega]
theorem sU {P:Program} (w:World) (b o n:Nat) (C:List Value) (ty:TypeId) (fr:Nat × Nat) (hC:w.heap[b]? =some (.cells C.toArray ty fr)) (h:o+n≤C.length):
  (loadCells ⟨b,o,none⟩ n).run P w= .ok ((C.drop o).take n).toArray w:=by
 have hlen:((C.drop o).take n).length=n:=by simp;omega
 have:=run_loadCells_list (P:=P) w ⟨b,o,none⟩ ((C.drop o).take n) (fun j v hv=>by
  rw[Addr.add_eq]
  have hj:j<n:=by
   rcases Nat.lt_or_ge j n with h' | h'
   ·exact h'
   ·rw[List.getElem?_eq_none (by omega)] at hv;cases hv
  simp[World.cell?,hC]
  rw[List.getElem?_take_of_lt hj,List.getElem?_drop] at hv
  exact hv)
 rwa [hlen] at this
section
variable {G:Glob} {P:Program} {T:Ty} (hT:T.ok P) {N:Nat} {w0:Base G}
include hT
omit hT in
theorem pR {P:Program} {w:World} {l:Loc} {pre C:List Value} {ty:TypeId} {fr:Nat × Nat} (hh:w.heap[l.a]? =some (.cells (pre++C).toArray ty fr)) (hp:pre.length=l.s) {o n:Nat} (h:o+n≤C.length):
  (loadCells (l.at o) n).run P w= .ok ((C.drop o).take n).toArray w:=by
 unfold Loc.at
 rw[sU w l.a (l.s+o) n (pre++C) ty fr hh (by simp;omega),←hp,List.drop_length_add_append]
omit hT in
theorem cell_at {w:World} {l:Loc} {pre C:List Value} {ty:TypeId} {fr:Nat × Nat} (hh:w.heap[l.a]? =some (.cells (pre++C).toArray ty fr)) (hp:pre.length=l.s) (o:Nat):w.cell? (l.at o)=C[o]? :=by
 have e:(pre++C)[l.s+o]? =C[o]? :=by rw[List.getElem?_append_right (by omega),←hp,Nat.add_sub_cancel_left]
 rw[←e]
 simp[World.cell?,Loc.at,hh]
omit hT in
theorem bG.write {m:PM} {β:Nat→Loc} {w:World} (hm:bG N w0 m β w) {k:Nat} {b:Blk} (hb:m k=some b) (hown:b.own=true) {pre C:List Value} {fr:Nat × Nat} (hh:w.heap[(β k).a]? =some (.cells (pre++C).toArray b.ty fr)) (hp:pre.length=(β k).s)
  (vs:List Value) (o:Nat) (hle:o+vs.length≤C.length) (h1:∀v∈vs,v.oneCell'=true) {r:Row} (hC:r.is β (β k).c (C.take o++(vs++C.drop (o+vs.length)))) (hi:∀j∈r.ids,(m j).isSome=true):
  ∃w',(storeCells ((β k).at o) vs 0).run P w= .ok () w'∧bG N w0 (Eff.app m 0 (.upd k r)) β w':=by
 obtain⟨fr',pre',C',hh',hp',_,hh2⟩:=hm.blk k b hb
 rw[hh] at hh'
 obtain⟨hpc,rfl⟩:pre++C=pre'++C'∧fr=fr':=by
  simp only[Option.some.injEq,Obj.cells.injEq] at hh'
  exact⟨by simpa using congrArg Array.toList hh'.1,hh'.2.2⟩
 obtain⟨hN,hfr⟩:=hh2 hown
 rw[←hpc] at hfr
 obtain⟨w',r1,r2,r3,r4,r5,r6,r7⟩:=sS (P:=P) (β k).a ((β k).s+o) b.ty fr vs 0 w (pre++C) hh (by simp;omega) hfr h1
 refine⟨w',r1,hm.set hb hown hp hC hi ?_ r2 r3 (fr:=fr) ?_ ?_⟩
 ·exact⟨r5.trans hm.below.os,r6.trans hm.below.tape,r7.trans hm.below.output,by rw[r2];exact hm.below.size,fun j hj hx=>by
   rw[r3 j ?_]
   ·exact hm.below.block j hj hx
   ·intro e
    rcases hN with hN | hN
    ·omega
    ·exact hx (e ▸ hN)⟩
 ·have e:(pre++(C.take o++(vs++C.drop (o+vs.length)))).length=(pre++C).length:=by simp;omega
  rw[e];exact hfr
 ·rw[r4,←hp]
  congr 3
  rw[Nat.add_zero,List.take_length_add_append,Nat.add_assoc,List.drop_length_add_append,List.append_assoc]
theorem wu {m:PM} {β:Nat→Loc} {w:World} (hm:bG N w0 m β w) {t:TypeId} {x v:SV} (h:eLoad T m t x=some v):
  (Instr.loadAt t (x.den β)).run P w= .ok (v.den β) w∧(∀k∈v.ids,(m k).isSome=true):=by
 unfold eLoad at h
 split at h<;>try cases h
 rename_i k o
 split at h<;>try cases h
 rename_i i hi
 split at h<;>try cases h
 rename_i own ty cs hb
 obtain⟨fr,pre,C,hh,hp,hC,_⟩:=hm.blk k _ hb
 have hC:C=cs.map (Atom.den β):=hC
 subst hC
 have hag:=mV hT hi w
 have hsz:=bS hT hi w
 split at h
 ·rename_i ha
  split at h<;>try cases h
  rename_i hle
  have hle:=Nat.le_of_ble_eq_true hle
  rw[ha] at hag
  refine⟨?_,?_⟩
  ·simp only[SV.den,SV1.den,Atom.den,Instr.loadAt,Instr.sureAddr,Sem.run_bind,Sem.run_pure,Result.andThen_ok,loadVar,hag,if_true,hsz]
   rw[pR hh hp (by simpa using hle)]
   simp[List.map_take,List.map_drop]
  ·intro j hj
   refine hm.ids k _ hb j ?_
   obtain⟨c,hc,hjc⟩:=lM hj
   exact jy (List.mem_of_mem_drop (List.mem_of_mem_take hc)) hjc
 ·rename_i ha
  rw[ha] at hag
  split at h<;>try cases h
  rename_i c hc
  refine⟨?_,?_⟩
  ·have:w.cell? ((β k).at (o))=some (c.den β):=by rw[cell_at hh hp];simp[hc]
   simp[SV.den,SV1.den,Atom.den,Instr.loadAt,Instr.sureAddr,Sem.run_bind,loadVar,hag,this]
  ·intro j hj
   exact hm.ids k _ hb j (jy (List.mem_of_getElem? hc) hj)
theorem eStore_sound {m:PM} {β:Nat→Loc} {w:World} (hm:bG N w0 m β w) {t:TypeId} {x y:SV} {e:Eff} (h:qC T m t x y=some e) (hids:∀k∈y.ids,(m k).isSome=true):
  ∃w' k r,e= .upd k r∧(Instr.storeAt t (x.den β) (y.den β)).run P w= .ok () w'∧bG N w0 (e.app m 0) β w':=by
 unfold qC at h
 split at h<;>try cases h
 rename_i k o y
 split at h<;>try cases h
 rename_i i hi
 split at h<;>try cases h
 rename_i own ty cs hb
 split at h<;>try cases h
 rename_i hc
 simp only[Bool.and_eq_true] at hc
 obtain⟨⟨⟨hown,hlen⟩,hle⟩,hone⟩:=hc
 have hlen:=Nat.eq_of_beq_eq_true hlen
 have hle:=Nat.le_of_ble_eq_true hle
 obtain⟨fr,pre,C,hh,hp,hC,_⟩:=hm.blk k _ hb
 have hC:C=cs.map (Atom.den β):=hC
 subst hC
 have hsz:=bS hT hi w
 obtain⟨w',r1,r2⟩:=hm.write (P:=P) hb hown hh hp (y.cells.map (Atom.den β)) o (by simp;omega)
  (fun v hv=>by
   obtain⟨c,hc,rfl⟩:=List.mem_map.1 hv
   exact(rU c (oneAll_mem hone c hc) β).2) (r:= .lit (cs.take o++(y.cells++cs.drop (o+i.size)))) (by simp[Row.is,List.map_take,List.map_drop,hlen]) (by
  intro j hj
  obtain⟨c,hc,hjc⟩:=lM hj
  rcases List.mem_append.1 hc with hc | hc
  ·exact hm.ids k _ hb j (jy (List.mem_of_mem_take hc) hjc)
  ·rcases List.mem_append.1 hc with hc | hc
   ·refine hids j ?_
    cases y with
    | a x=>simp[SV1.cells] at hc;subst hc;exact hjc
    | g cs=>exact jy hc hjc
   ·exact hm.ids k _ hb j (jy (List.mem_of_mem_drop hc) hjc))
 refine⟨w',k,_,rfl,?_,r2⟩
 show(Instr.storeAt t (.pointer (some ((β k).at (o)))) (y.den β)).run P w=_
 simp only[Instr.storeAt,Instr.sureAddr,Sem.run_bind,Sem.run_pure,Result.andThen_ok,storeVar,hsz,qE y hone β]
 simp[hlen,r1]
end
theorem eInt_sound {P:Program} {op:BinOp} {k kb:IntKind} {a b:Int} {r:Atom} (h:eInt op k a kb b=some r) (β:Nat→Loc) (t:TypeId) (w:World):
  (binOp op t (.int k a) (.int kb b)).run P w= .ok (r.den β) w∧r.ids=[]:=by
 cases op<;>simp only[eInt] at h
 case shl=>
       split at h<;>try cases h
       rename_i hb;exact⟨by simp[binOp,Op.shift,hb];rfl,rfl⟩
 case shr=>
       split at h<;>try cases h
       rename_i hb;exact⟨by simp[binOp,Op.shift,hb];rfl,rfl⟩
 all_goals (split at h<;>try cases h)
 all_goals (rename_i hk;subst hk)
 case quo=>
       split at h<;>try cases h
       rename_i hb;exact⟨by simp[binOp,Op.intDiv,hb];rfl,rfl⟩
 case rem=>
       split at h<;>try cases h
       rename_i hb;exact⟨by simp[binOp,Op.intDiv,hb];rfl,rfl⟩
 all_goals exact⟨by simp[binOp,Op.intArith,Op.intCmp,intBits_and,intBits_or,intBits_xor,intBits_andNot];rfl,rfl⟩
theorem eqInts_len:∀{xs ys:List Atom} {r:Bool},jW xs ys=some r→xs.length=ys.length
 | [],[],_,_=>rfl
 | [],_::_,_,h=>by simp[jW] at h
 | .v (.int k a)::xs,[],_,h=>by simp[jW] at h
 | x::xs,[],_,h=>by cases x<;>simp[jW] at h
 | x::xs,y::ys,r,h=>by
  unfold jW at h
  split at h<;>try cases h
  ·rename_i e1 e2;cases e1
  ·rename_i e1 e2
   cases e1
   cases e2
   split at h<;>try cases h
   split at h<;>try cases h
   rename_i r' hr
   simp[eqInts_len hr]
theorem eqInts_run {P:Program} {e:TypeId} {k0:IntKind} (he:P.underlying e=some (.int k0)) (hc:P.cellsOf e=1) (d:Nat) (β:Nat→Loc) (w:World):
  ∀(n s:Nat) (xs ys:List Atom) (r:Bool),xs.length=s+n→ys.length=s+n→jW (xs.drop s) (ys.drop s)=some r→
  (Op.eqItems (d+1) e (P.cellsOf e) (xs.map (Atom.den β)).toArray (ys.map (Atom.den β)).toArray (List.range' s n)).run P w= .ok r w
 | 0,s,xs,ys,r,hx,hy,h=>by
  rw[List.drop_eq_nil_of_le (by omega),List.drop_eq_nil_of_le (by omega)] at h
  simp only[jW] at h
  cases h
  simp[Op.eqItems]
 | n+1,s,xs,ys,r,hx,hy,h=>by
  rw[List.drop_eq_getElem_cons (show s<xs.length by omega),List.drop_eq_getElem_cons (show s<ys.length by omega)] at h
  unfold jW at h
  split at h<;>try cases h
  ·rename_i e1 e2;cases e1
  ·rename_i k a xs' k' b ys' e1 e2
   obtain⟨e1,e1'⟩:=List.cons.inj e1
   obtain⟨e2,e2'⟩:=List.cons.inj e2
   split at h<;>try cases h
   rename_i hk
   subst hk
   rw[←e1',←e2'] at h
   split at h<;>try cases h
   rename_i r' hr
   have ih:=eqInts_run he hc d β w n (s+1) xs ys r' (by omega) (by omega) hr
   have px:(part e (xs.map (Atom.den β)).toArray (s*P.cellsOf e)).run P w= .ok (.int k a) w:=by
    simp[part,isAgg,run_underlying he,hc,List.getElem?_eq_getElem (show s<xs.length by omega),e1,Atom.den]
   have py:(part e (ys.map (Atom.den β)).toArray (s*P.cellsOf e)).run P w= .ok (.int k b) w:=by
    simp[part,isAgg,run_underlying he,hc,List.getElem?_eq_getElem (show s<ys.length by omega),e2,Atom.den]
   simp only[List.range'_succ,Op.eqItems,Sem.run_bind,px,py,Result.andThen_ok,run_equalIn_int w d e k k0 _ _ he]
   cases hab:(a==b)
   ·simp
   ·simpa using ih
theorem cellsOf_of {P:Program} {T:Ty} (hT:T.ok P) {t:TypeId} {i:TI} (h:T.get t=some i):P.cellsOf t=i.size:=by
 have h1:=(Ty.dD hT h).1
 unfold Program.cellsOf
 rw[h1];rfl
section
variable {P:Program} {T:Ty} (hT:T.ok P)
include hT
theorem eBin_sound {op:BinOp} {t:TypeId} {x y v:SV} (h:eBin T op t x y=some v) (β:Nat→Loc) (xo yo:Operand) (w:World):
  ((do eqGuard op t xo yo (x.den β) (y.den β);binOp op t (x.den β) (y.den β)):Sem Value).run P w= .ok (v.den β) w∧v.ids=[]:=by
 unfold eBin at h
 split at h
 ·split at h<;>try cases h
  rename_i r hr
  obtain⟨h1,h2⟩:=eInt_sound (P:=P) hr β t w
  refine⟨?_,by simpa [SV.ids,SV1.ids] using h2⟩
  simp only[SV.den,SV1.den,Atom.den,eqGuard_at_int,pure_bind]
  exact h1
 ·split at h<;>try cases h
  rename_i hi
  have hu:=(Ty.dD hT hi).2.2.2.2.2.1.1
  cases op<;>simp only[] at h<;>cases h
  ·exact⟨by simp[SV.den,SV1.den,Atom.den,eqGuard_at_bool,binOp,run_equal_bool w t _ _ hu],rfl⟩
  ·exact⟨by simp[SV.den,SV1.den,Atom.den,eqGuard_at_bool,binOp,run_equal_bool w t _ _ hu],rfl⟩
 ·rename_i xs ys
  split at h<;>try cases h
  rename_i n e hi
  split at h<;>try cases h
  rename_i z0 k0 b0 hj
  split at h<;>try cases h
  rename_i r hl hr
  have hl:=Nat.eq_of_beq_eq_true hl
  have hoki:=Ty.dD hT hi
  have hokj:=Ty.dD hT hj
  have hu:P.underlying t=some (.array n e):=hoki.2.2.2.2.2.1
  have he:P.underlying e=some (.int k0):=hokj.2.2.2.2.2.1.1
  have hg:=hoki.2.2.2.2.2.2 rfl
  have hc:P.cellsOf e=1:=cellsOf_of hT hj
  have hinfo:∃i,P.info? e=some i:=by
   have:=hokj.1
   cases hq:P.info? e with
   | none=>rw[hq] at this;cases this
   | some i=>exact⟨i,rfl⟩
  obtain⟨i,hinfo⟩:=hinfo
  have hxy:=eqInts_len hr
  have main:(Op.equalIn 10000 t (.agg (xs.map (Atom.den β)).toArray) (.agg (ys.map (Atom.den β)).toArray)).run P w= .ok r w:=by
   rw[run_equalIn_array w 9999 _ _ hu hinfo,List.range_eq_range']
   exact eqInts_run he hc 9998 β w n 0 xs ys r (by omega) (by omega) (by simpa using hr)
  cases op<;>simp only[] at h<;>cases h
  ·refine⟨?_,rfl⟩
   simp only[SV.den,SV1.den,Atom.den,Sem.run_bind,run_eqGuard_agg w _ t xo yo _ _ hg,Result.andThen_ok,run_eql_struct,main]
  ·refine⟨?_,rfl⟩
   simp only[SV.den,SV1.den,Atom.den,Sem.run_bind,run_eqGuard_agg w _ t xo yo _ _ hg,Result.andThen_ok,run_neq_struct,main]
 ·cases h
theorem wo {t:TypeId} {cs:List Atom} {off:Nat} {v:SV} (h:ePart T t cs off=some v) (β:Nat→Loc) (w:World):
  (part t (cs.map (Atom.den β)).toArray off).run P w= .ok (v.den β) w∧(∀k∈v.ids,k∈bL cs):=by
 unfold ePart at h
 split at h<;>try cases h
 rename_i i hi
 have hag:=mV hT hi w
 have hsz:=bS hT hi w
 split at h
 ·rename_i ha
  split at h<;>try cases h
  rename_i hle
  have hle:=Nat.le_of_ble_eq_true hle
  rw[ha] at hag
  refine⟨?_,?_⟩
  ·simp only[part,Sem.run_bind,hag,Result.andThen_ok,if_true,hsz,Sem.run_pure,SV.den,SV1.den]
   congr 2
   apply Array.ext'
   simp only[List.extract_toArray,List.extract_eq_take_drop,List.map_take,List.map_drop]
   congr 1
   omega
  ·intro j hj
   obtain⟨c,hc,hjc⟩:=lM hj
   exact jy (List.mem_of_mem_drop (List.mem_of_mem_take hc)) hjc
 ·rename_i ha
  rw[ha] at hag
  split at h<;>try cases h
  rename_i c hc
  refine⟨?_,?_⟩
  ·simp[part,hag,hc,SV.den,SV1.den]
  ·intro j hj
   exact jy (List.mem_of_getElem? hc) hj
end
section
variable {P:Program} {T:Ty} (hT:T.ok P)
include hT
theorem wJ {t:TypeId} {x ix v:SV} (h:uI T t x ix=some v) (β:Nat→Loc) (w:World):
  (Instr.indexAt t (x.den β) (ix.den β)).run P w= .ok (v.den β) w∧(∀k∈v.ids,k∈x.ids):=by
 unfold uI at h
 split at h
 ·split at h<;>try cases h
  rename_i len e b hi
  split at h<;>try cases h
  rename_i j hj
  split at h<;>try cases h
  rename_i hn
  have hu:P.underlying t=some (.array len e):=(Ty.dD hT hi).2.2.2.2.2.1
  refine⟨?_,by simp[SV.ids,SV1.ids,Atom.ids]⟩
  simp[SV.den,SV1.den,Atom.den,Instr.indexAt,asIntOf,run_underlying hu,Instr.sureAddr,hn,bS hT hj,Loc.gL]
 ·split at h<;>try cases h
  rename_i z e b hi
  split at h<;>try cases h
  rename_i j hj
  split at h<;>try cases h
  rename_i hn
  have hu:P.underlying t=some (.slice e):=(Ty.dD hT hi).2.2.2.2.2.1.1
  refine⟨?_,by simp[SV.ids,SV1.ids,Atom.ids]⟩
  simp[SV.den,SV1.den,Atom.den,Instr.indexAt,asIntOf,run_underlying hu,Instr.sureAddr,hn,bS hT hj,Loc.gL]
 ·cases h
theorem eIndex_sound {t:TypeId} {x ix v:SV} (h:eIndex T t x ix=some v) (β:Nat→Loc) (w:World):
  (Instr.index t (x.den β) (ix.den β)).run P w= .ok (v.den β) w∧(∀k∈v.ids,k∈x.ids):=by
 unfold eIndex at h
 split at h
 ·rename_i cs kk n
  split at h<;>try cases h
  rename_i len e b hi
  split at h<;>try cases h
  rename_i j hj
  split at h<;>try cases h
  rename_i hn
  have hu:P.underlying t=some (.array len e):=(Ty.dD hT hi).2.2.2.2.2.1
  obtain⟨h1,h2⟩:=wo hT h β w
  refine⟨?_,h2⟩
  show(Instr.index t (.agg (cs.map (Atom.den β)).toArray) (.int kk n)).run P w=_
  simp only[Instr.index,asIntOf,Sem.run_bind,Sem.run_pure,Result.andThen_ok,run_underlying hu,if_pos hn,bS hT hj]
  exact h1
 ·cases h
theorem wK {t:TypeId} {x v:SV} {f:Nat} (h:uJ T t x f=some v) (β:Nat→Loc) (w:World):
  (Instr.fieldAt t (x.den β) f).run P w= .ok (v.den β) w∧(∀k∈v.ids,k∈x.ids):=by
 unfold uJ at h
 split at h<;>try cases h
 split at h<;>try cases h
 rename_i fs b hi
 split at h<;>try cases h
 rename_i off ft hf
 split at h<;>try cases h
 rename_i n z s q hj
 obtain⟨F,hu,hF⟩:=(Ty.dD hT hi).2.2.2.2.2.1
 refine⟨?_,by simp[SV.ids,SV1.ids,Atom.ids]⟩
 have hFf:∃fd,F[f]? =some fd∧fd.offset=off∧fd.type=ft:=by
  have:(F.toList.map (fun f=>(f.offset,f.type)))[f]? =some (off,ft):=by rw[hF];exact hf
  rw[List.getElem?_map] at this
  cases hq:F.toList[f]? with
  | none=>rw[hq] at this;cases this
  | some fd=>
   rw[hq] at this
   have h2:=Option.some.inj this
   exact⟨fd,by simpa using hq,congrArg Prod.fst h2,congrArg Prod.snd h2⟩
 obtain⟨fd,h1,rfl,rfl⟩:=hFf
 simp[SV.den,SV1.den,Atom.den,Instr.fieldAt,run_underlying hu,h1,Instr.sureAddr,fieldPlace,bS hT hj,Loc.gL]
theorem eField_sound {t:TypeId} {x v:SV} {f:Nat} (h:eField T t x f=some v) (β:Nat→Loc) (w:World):
  (Instr.field t (x.den β) f).run P w= .ok (v.den β) w∧(∀k∈v.ids,k∈x.ids):=by
 unfold eField at h
 split at h<;>try cases h
 rename_i cs
 split at h<;>try cases h
 rename_i fs b hi
 split at h<;>try cases h
 rename_i off ft hf
 obtain⟨F,hu,hF⟩:=(Ty.dD hT hi).2.2.2.2.2.1
 have hFf:∃fd,F[f]? =some fd∧fd.offset=off∧fd.type=ft:=by
  have:(F.toList.map (fun f=>(f.offset,f.type)))[f]? =some (off,ft):=by rw[hF];exact hf
  rw[List.getElem?_map] at this
  cases hq:F.toList[f]? with
  | none=>rw[hq] at this;cases this
  | some fd=>
   rw[hq] at this
   have h2:=Option.some.inj this
   exact⟨fd,by simpa using hq,congrArg Prod.fst h2,congrArg Prod.snd h2⟩
 obtain⟨fd,h1,rfl,rfl⟩:=hFf
 obtain⟨h3,h4⟩:=wo hT h β w
 refine⟨?_,h4⟩
 show(Instr.field t (.agg (cs.map (Atom.den β)).toArray) f).run P w=_
 simp only[Instr.field,Sem.run_bind,Sem.run_pure,Result.andThen_ok,run_underlying hu,h1,asAgg]
 exact h3
omit hT in
theorem setAll_den (β:Nat→Loc):∀(cs:List Atom) (cells:List Atom) (off s:Nat),
  (((cs.map (Atom.den β)).zipIdx s).foldl (fun(A:Array Value) (p:Value × Nat)=>A.setIfInBounds (off+p.2) p.1) (cells.map (Atom.den β)).toArray)=((setAll cells (off+s) cs).map (Atom.den β)).toArray
 | [],cells,off,s=>rfl
 | c::r,cells,off,s=>by
  simp only[List.map_cons,List.zipIdx_cons,List.foldl_cons,setAll]
  have:=setAll_den β r (cells.set (off+s) c) off (s+1)
  rw[show off+(s+1)=off+s+1 by omega] at this
  rw[←this]
  congr 1
  apply Array.ext'
  simp[List.map_set]
omit hT in
theorem setAll_ids:∀(cs cells:List Atom) (off:Nat),∀k∈bL (setAll cells off cs),k∈bL cells∨k∈bL cs
 | [],_,_,k,h=> .inl h
 | c::r,cells,off,k,h=>by
  rcases setAll_ids r _ _ k h with h | h
  ·obtain⟨d,hd,hk⟩:=lM h
   rcases List.mem_or_eq_of_mem_set hd with h | rfl
   ·exact .inl (jy h hk)
   ·exact .inr (by simp[bL,hk])
  ·exact .inr (by simp[bL,h])
omit hT in
theorem q9 {place:Nat→Option (Nat × Nat)} {ρ:Operand→SV} (β:Nat→Loc) (ρ':Operand→Value) (hρ:∀x,ρ' x=(ρ x).den β):
  ∀(parts:List (Nat × Operand)) (cells cs:List Atom),nk T place ρ cells parts=some cs→
   Instr.fill place (cells.map (Atom.den β)).toArray (parts.map fun(i,x)=>(i,ρ' x))=some (cs.map (Atom.den β)).toArray∧
   (∀k∈bL cs,k∈bL cells∨∃p∈parts,k∈(ρ p.2).ids)
 | [],cells,cs,h=>by
  simp only[nk] at h
  cases h
  exact⟨rfl,fun k hk=> .inl hk⟩
 | (i,x)::rest,cells,cs,h=>by
  unfold nk at h
  split at h<;>try cases h
  rename_i y hy
  split at h<;>try cases h
  rename_i off size hp
  split at h<;>try cases h
  rename_i hc
  simp only[Bool.and_eq_true] at hc
  obtain⟨⟨hl,hle⟩,hone⟩:=hc
  have hl:=Nat.eq_of_beq_eq_true hl
  have hle:=Nat.le_of_ble_eq_true hle
  obtain⟨h1,h2⟩:=q9 β ρ' hρ rest _ cs h
  refine⟨?_,?_⟩
  ·simp only[List.map_cons,Instr.fill,hp,hρ,hy]
   have hcd:(SV.den β (.o y)).cells=(y.cells.map (Atom.den β)).toArray:=qE y hone β
   rw[hcd]
   rw[if_neg (by simp[hl];omega)]
   rw[←h1]
   congr 1
   have:=setAll_den β y.cells cells off 0
   simp only[Nat.add_zero] at this
   rw[←this]
   rw[←Array.foldl_toList]
   simp
   ·simp only[hρ]
  ·intro k hk
   rcases h2 k hk with h | ⟨p,hp,hk⟩
   ·rcases setAll_ids _ _ _ k h with h | h
    ·exact .inl h
    ·refine .inr ⟨(i,x),by simp,?_⟩
     rw[hy]
     cases y with
     | a x=>simpa [SV1.cells,bL,SV.ids,SV1.ids] using h
     | g cs=>exact h
   ·exact .inr ⟨p,by simp[hp],hk⟩
theorem eBuild_sound {t:TypeId} {ρ:Operand→SV} {parts:Array (Nat × Operand)} {v:SV} (h:eBuild T ρ t parts.toList=some v) (β:Nat→Loc) (ρ':Operand→Value) (hρ:∀x,ρ' x=(ρ x).den β) (w:World):
  (Instr.build t (parts.map fun(i,x)=>(i,ρ' x))).run P w= .ok (v.den β) w∧(∀k∈v.ids,∃p∈parts.toList,k∈(ρ p.2).ids):=by
 unfold eBuild at h
 split at h
 ·rename_i n z fs b hi
  split at h<;>try cases h
  rename_i cs hcs
  split at h<;>try cases h
  rename_i hall
  obtain⟨F,hu,hF⟩:=(Ty.dD hT hi).2.2.2.2.2.1
  have hz:=tZ hT hi w
  have hzi:=(Ty.dD hT hi).2.2.1
  have hzd:=zero_den hT hi β
  simp only[TI.agg,if_true] at hz hzi hzd
  obtain⟨h1,h2⟩:=q9 β ρ' hρ parts.toList z cs hcs
  have hplaces:((F.mapM fun f=>do pure (f.offset,←sizeOf f.type)):Sem (Array (Nat × Nat))).run P w= .ok (F.map fun f=>(f.offset,((T.get f.type).map (·.size)).getD 0)) w:=by
   rw[Array.mapM_eq_mapM_toList]
   have:∀(l:List Field),(∀f∈l,(T.get f.type).isSome=true)→((l.mapM fun f=>do pure (f.offset,←sizeOf f.type)):Sem (List (Nat × Nat))).run P w= .ok (l.map fun f=>(f.offset,((T.get f.type).map (·.size)).getD 0)) w:=by
    intro l
    induction l with
    | nil=>intro _;simp
    | cons f r ih=>
     intro hl
     obtain⟨j,hj⟩:=Option.isSome_iff_exists.1 (hl f (by simp))
     simp only[List.mapM_cons,Sem.run_bind,Sem.run_pure,Result.andThen_ok,bS hT hj,ih fun g hg=>hl g (by simp[hg]),List.map_cons,hj,Option.map_some,Option.getD_some]
   simp only[Sem.run_map]
   rw[this F.toList (fun f hf=>by
    have:=List.all_eq_true.1 hall (f.offset,f.type) (by rw[←hF];exact List.mem_map.2 ⟨f,hf,rfl⟩)
    simpa using this)]
   simp only[Result.andThen_ok]
   congr 1
   exact Array.ext' (by simp)
  have hplace:placeOf T fs=((F.map fun f=>(f.offset,((T.get f.type).map (·.size)).getD 0))[·]?):=by
   funext i
   unfold placeOf
   rw[←hF]
   simp only[List.getElem?_map,Array.getElem?_toList,Array.getElem?_map]
   cases hq:F[i]? with
   | none=>rfl
   | some f=>
    have hmem:f∈F.toList:=Array.mem_toList_iff.2 (Array.mem_of_getElem? hq)
    have:=List.all_eq_true.1 hall (f.offset,f.type) (by rw[←hF];exact List.mem_map.2 ⟨f,hmem,rfl⟩)
    obtain⟨j,hj⟩:=Option.isSome_iff_exists.1 this
    simp only at hj
    simp[hj]
  refine⟨?_,?_⟩
  ·rw[hplace] at h1
   rw[hzd] at h1
   simp only[Instr.build,Sem.run_bind,hz,Result.andThen_ok,run_underlying hu,hplaces,Value.cells,Array.toList_map]
   rw[h1]
   rfl
  ·intro k hk
   rcases h2 k hk with h | h
   ·rw[hzi] at h;cases h
   ·exact h
 ·rename_i n z m e b hi
  split at h<;>try cases h
  rename_i j hj
  split at h<;>try cases h
  rename_i cs hcs
  have hu:P.underlying t=some (.array m e):=(Ty.dD hT hi).2.2.2.2.2.1
  have hz:=tZ hT hi w
  have hzi:=(Ty.dD hT hi).2.2.1
  have hzd:=zero_den hT hi β
  simp only[TI.agg,if_true] at hz hzi hzd
  obtain⟨h1,h2⟩:=q9 β ρ' hρ parts.toList z cs hcs
  refine⟨?_,?_⟩
  ·rw[hzd] at h1
   simp only[Instr.build,Sem.run_bind,hz,Result.andThen_ok,run_underlying hu,bS hT hj,Value.cells,Array.toList_map]
   rw[h1]
   rfl
  ·intro k hk
   rcases h2 k hk with h | h
   ·rw[hzi] at h;cases h
   ·exact h
 ·cases h
omit hT in
theorem eExtract_sound {x v:SV} {i:Nat} (h:uK x i=some v) (β:Nat→Loc) (w:World):
  (Instr.extract (x.den β) i).run P w= .ok (v.den β) w∧(∀k∈v.ids,k∈x.ids):=by
 cases x with
 | o x=>simp[uK] at h
 | t xs=>
 simp only[uK] at h
 split at h<;>try cases h
 rename_i y hy
 refine⟨by simp[SV.den,Instr.extract,hy],?_⟩
 intro k hk
 have hm:=List.mem_of_getElem? hy
 clear hy
 induction xs with
 | nil=>cases hm
 | cons z r ih=>
  simp only[SV.ids,idsT,List.mem_append]
  rcases List.mem_cons.1 hm with rfl | hm
  ·exact .inl hk
  ·exact .inr (ih hm)
omit hT in
theorem wB {ρ:Operand→SV} (β:Nat→Loc) (ρ':Operand→Value) (hρ:∀x,ρ' x=(ρ x).den β):∀(l:List Operand) (r:List (Nat × Nat)),eCaps ρ l=some r→
  l.map ρ'=r.map (fun p=>Value.pointer (some ((β p.1).at (p.2))))∧(∀p∈r,∃x∈l,p.1∈(ρ x).ids)
 | [],r,h=>by simp only[eCaps] at h;cases h;exact⟨rfl,fun p hp=>by cases hp⟩
 | x::l,r,h=>by
  unfold eCaps at h
  split at h<;>try cases h
  rename_i k o r' hx hr
  obtain⟨h1,h2⟩:=wB β ρ' hρ l r' hr
  refine⟨by simp only[List.map_cons,h1,hρ,hx];rfl,?_⟩
  intro p hp
  rcases List.mem_cons.1 hp with rfl | hp
  ·exact⟨x,by simp,by rw[hx];simp[SV.ids,SV1.ids,Atom.ids]⟩
  ·obtain⟨y,hy,hk⟩:=h2 p hp
   exact⟨y,by simp[hy],hk⟩
omit hT in
theorem vH {ρ:Operand→SV} (β:Nat→Loc) (ρ':Operand→Value) (hρ:∀x,ρ' x=(ρ x).den β) {d:Nat} {o:Option Operand} {n:Nat} (h:mM ρ d o=some n):
  (o=none∧n=d)∨∃x k q,o=some x∧ρ' x= .int k q∧0≤q∧q.toNat=n:=by
 unfold mM at h
 split at h
 ·cases h;exact .inl ⟨rfl,rfl⟩
 ·rename_i x
  split at h<;>try cases h
  rename_i k q hx
  split at h<;>try cases h
  rename_i hq
  exact .inr ⟨x,k,q,rfl,by rw[hρ,hx];rfl,hq,rfl⟩
omit hT in
theorem rO {isSlice:Bool} {len cap:Nat} {ρ:Operand→SV} (β:Nat→Loc) (ρ':Operand→Value) (hρ:∀x,ρ' x=(ρ x).den β) {lo hi:Option Operand} {l h:Nat}
  (hl:mM ρ 0 lo=some l) (hh:mM ρ len hi=some h) (h1:l≤h) (h2:h≤cap) (w:World):
  (Instr.sliceBounds isSlice len cap (lo.map ρ') (hi.map ρ') none).run P w= .ok (l,h,cap) w:=by
 rcases vH β ρ' hρ hl with⟨rfl,rfl⟩ | ⟨x,kx,qx,rfl,hx,hx0,hxn⟩<;>rcases vH β ρ' hρ hh with⟨rfl,rfl⟩ | ⟨y,ky,qy,rfl,hy,hy0,hyn⟩
 ·simp[Instr.sliceBounds]
 ·simp[Instr.sliceBounds,Instr.sliceBound,hy,asIntOf,hy0,show qy≤(cap:Int) by omega,hyn]
 ·simp[Instr.sliceBounds,Instr.sliceBound,hx,asIntOf,hx0,show qx≤(h:Int) by omega,hxn]
 ·simp[Instr.sliceBounds,Instr.sliceBound,hx,hy,asIntOf,hx0,hy0,show qy≤(cap:Int) by omega,show qx≤qy by omega,hxn,hyn]
  omega
theorem eSlice_sound {t:TypeId} {ρ:Operand→SV} {x v:SV} {lo hi:Option Operand} (h:eSlice T ρ t x lo hi=some v) (β:Nat→Loc) (ρ':Operand→Value) (hρ:∀x,ρ' x=(ρ x).den β) (w:World):
  (Instr.sliceAt t (x.den β) (lo.map ρ') (hi.map ρ') none).run P w= .ok (v.den β) w∧(∀k∈v.ids,k∈x.ids):=by
 unfold eSlice at h
 split at h
 ·rename_i k o
  split at h<;>try cases h
  rename_i n e b hi'
  split at h<;>try cases h
  rename_i i l hh hj hl hhi
  split at h<;>try cases h
  rename_i hc
  simp only[Bool.and_eq_true] at hc
  have c1:=Nat.le_of_ble_eq_true hc.1
  have c2:=Nat.le_of_ble_eq_true hc.2
  have hu:P.underlying t=some (.array n e):=(Ty.dD hT hi').2.2.2.2.2.1
  refine⟨?_,by simp[SV.ids,SV1.ids,Atom.ids]⟩
  show(Instr.sliceAt t (.pointer (some ((β k).at (o)))) (lo.map ρ') (hi.map ρ') none).run P w=_
  simp only[Instr.sliceAt,Sem.run_bind,run_underlying hu,Result.andThen_ok,Instr.sureAddr,Sem.run_pure,rO β ρ' hρ hl hhi c1 c2 w,bS hT hj,Loc.gL]
  simp only[SV.den,SV1.den,Atom.den]
  congr 2
  split<;>simp_all
 ·rename_i k o len cap
  split at h<;>try cases h
  rename_i z e b hi'
  split at h<;>try cases h
  rename_i i l hh hj hl hhi
  split at h<;>try cases h
  rename_i hc
  simp only[Bool.and_eq_true] at hc
  have c1:=Nat.le_of_ble_eq_true hc.1
  have c2:=Nat.le_of_ble_eq_true hc.2
  have hu:P.underlying t=some (.slice e):=(Ty.dD hT hi').2.2.2.2.2.1.1
  refine⟨?_,by simp[SV.ids,SV1.ids,Atom.ids]⟩
  show(Instr.sliceAt t (.slice (some ((β k).at (o))) len cap) (lo.map ρ') (hi.map ρ') none).run P w=_
  simp only[Instr.sliceAt,Instr.slice,Sem.run_bind,run_underlying hu,Result.andThen_ok,Sem.run_pure,rO β ρ' hρ hl hhi c1 c2 w,bS hT hj,Option.map_some,Loc.gL]
  simp only[SV.den,SV1.den,Atom.den]
  congr 2
  split<;>simp_all
 ·cases h
end
section
variable {G:Glob} {P:Program} {T:Ty} (hT:T.ok P) {N:Nat} {w0:Base G}
include hT
def iy (P:Program) (N:Nat) (w0:Base G) (m:PM) (fresh:Nat) (β:Nat→Loc) (w:World) (v:SV) (e:Eff) (s:Sem Next):Prop:=
 ∃w' β',(s.run P w= .ok (.value (v.den β')) w'∨(s.run P w= .ok .skip w'∧v=eu))∧(∀k,k≠fresh→β' k=β k)∧
  bG N w0 (e.app m fresh) β' w'∧(∀k∈v.ids,(e.app m fresh k).isSome=true)
omit hT in
theorem iy.plain {m:PM} {fresh:Nat} {β:Nat→Loc} {w:World} {v:SV} {s:Sem Value} (hm:bG N w0 m β w) (h:s.run P w= .ok (v.den β) w) (hi:∀k∈v.ids,(m k).isSome=true):
  iy P N w0 m fresh β w v .none (do pure (Next.value (←s))):=
 ⟨w,β,.inl (by simp[h]),fun _ _=>rfl,hm,hi⟩
omit hT in
theorem iy.mk {m:PM} {fresh:Nat} {β:Nat→Loc} {w:World} {t:TypeId} {cs:List Atom} {s:Sem Value} (hm:bG N w0 m β w) (hf:m fresh=none)
  (hi:∀j∈bL cs,(m j).isSome=true) (h:s.run P w= .ok (.pointer (some ⟨w.heap.size,0,none⟩)) (w.alloc (.cells (cs.map (Atom.den β)).toArray t))):
  iy P N w0 m fresh β w (.o (.a (.ptr fresh 0))) (.new ⟨true,t,cs⟩) (do pure (Next.value (←s))):=by
 refine⟨_,Eng.upd β fresh ⟨w.heap.size,0,0⟩,.inl ?_,fun k hk=>by simp[Eng.upd,hk],hm.new hf (r:= .lit cs) (c:=0) rfl hi,?_⟩
 ·simp[h,SV.den,SV1.den,Atom.den,Eng.upd,Loc.at]
 ·intro k hk
  simp only[SV.ids,SV1.ids,Atom.ids,List.mem_singleton] at hk
  subst hk
  simp[Eff.app,Eng.upd]
omit hT in
theorem ids_cells (y:SV1):bL y.cells=y.ids:=by
 cases y with
 | a x=>simp[SV1.cells,bL,SV1.ids]
 | g cs=>rfl
theorem eOp_sound {ρ:Operand→SV} {ρ':Operand→Value} {m:PM} {fresh:Nat} {β:Nat→Loc} {w:World} {o:Oper} {v:SV} {e:Eff} (hρ:∀x,ρ' x=(ρ x).den β)
  (hm:bG N w0 m β w) (hf:m fresh=none) (hids:∀x∈o.op.operands.toList,∀k∈(ρ x).ids,(m k).isSome=true) (h:eOp T ρ m fresh o.op=some (v,e)):
  iy P N w0 m fresh β w v e (execOp ρ' o):=by
 obtain⟨dst,op,ty,pos,after,guard⟩:=o
 simp only at h hids
 cases op<;>simp only[eOp] at h<;>simp only[execOp]
 case move x=>
  simp only[Option.some.injEq,Prod.mk.injEq] at h
  obtain⟨rfl,rfl⟩:=h
  exact⟨w,β,.inl (by simp[hρ]),fun _ _=>rfl,hm,hids x (by simp[Op.operands])⟩
 case assign x=>
  simp only[Option.some.injEq,Prod.mk.injEq] at h
  obtain⟨rfl,rfl⟩:=h
  exact⟨w,β,.inl (by simp[hρ]),fun _ _=>rfl,hm,hids x (by simp[Op.operands])⟩
 case pick c a b=>
  split at h<;>try cases h
  rename_i t hc
  have hc':ρ' c= .bool t:=by rw[hρ,hc];rfl
  cases t
  ·exact⟨w,β,.inl (by simp[hc',asBool,hρ]),fun _ _=>rfl,hm,hids b (by simp[Op.operands])⟩
  ·exact⟨w,β,.inl (by simp[hc',asBool,hρ]),fun _ _=>rfl,hm,hids a (by simp[Op.operands])⟩
 case alloc t=>
  split at h<;>try cases h
  rename_i i hi
  have hok:=Ty.dD hT hi
  refine iy.mk hm hf (fun j hj=>by rw[hok.2.2.1] at hj;cases hj) ?_
  have hz:=tZ hT hi w
  have hcells:(if i.agg=true then Value.agg (i.zero.map (Atom.den loc0)).toArray else (i.zero.map (Atom.den loc0)).getD 0 undef).cells=(i.zero.map (Atom.den β)).toArray:=by
   rw[zero_den hT hi β]
   by_cases ha:i.agg=true
   ·rw[if_pos ha];rfl
   ·rw[if_neg ha]
    have hl:=hok.2.2.2.2.1 (by simpa using ha)
    have h1:=hok.2.2.2.1
    match hz:i.zero,hl with
    | [c],_=>
     rw[hz] at h1
     exact(rU c (by simpa [jU] using h1) loc0).1
  generalize (if i.agg=true then Value.agg (i.zero.map (Atom.den loc0)).toArray else (i.zero.map (Atom.den loc0)).getD 0 undef)=Z at hz hcells
  simp[Instr.alloc,hz,newVar,newRow,hcells]
 case box t x=>
  split at h<;>try cases h
  rename_i y hy
  split at h<;>try cases h
  rename_i hone
  refine iy.mk hm hf (fun j hj=>hids x (by simp[Op.operands]) j (by rw[hy];rw[ids_cells] at hj;exact hj)) ?_
  have hc:(ρ' x).cells=(y.cells.map (Atom.den β)).toArray:=by rw[hρ,hy];exact qE y hone β
  simp[Instr.box,newVar,newRow,hc]
 case build t parts=>
  split at h<;>try cases h
  rename_i hb
  obtain⟨h1,h2⟩:=eBuild_sound hT hb β ρ' hρ w
  exact iy.plain hm h1 fun k hk=>by
   obtain⟨p,hp,hk⟩:=h2 k hk
   exact hids p.2 (by simp only[Op.operands];exact List.mem_map.2 ⟨p,hp,rfl⟩) k hk
 case load t x=>
  split at h<;>try cases h
  rename_i hl
  obtain⟨h1,h2⟩:=wu hT hm hl
  rw[←hρ] at h1
  exact iy.plain hm h1 h2
 case store t x y=>
  split at h<;>try cases h
  rename_i hl
  obtain⟨w',k,cs,rfl,h1,h2⟩:=eStore_sound hT hm hl (hids y (by simp[Op.operands]))
  rw[←hρ,←hρ] at h1
  exact⟨w',β,.inr ⟨by simp[h1],rfl⟩,fun _ _=>rfl,h2,fun k hk=>by cases hk⟩
 case nilCheck x=>
  split at h<;>try cases h
  rename_i k o hx
  have hx':ρ' x= .pointer (some ((β k).at (o))):=by rw[hρ,hx];rfl
  exact⟨w,β,.inl (by simp[hx'];rfl),fun _ _=>rfl,hm,fun j hj=>hids x (by simp[Op.operands]) j (by rw[hx];exact hj)⟩
 case binOp op t x y yt=>
  split at h<;>try cases h
  rename_i hb
  obtain⟨h1,h2⟩:=eBin_sound hT hb β x y w
  rw[←hρ,←hρ] at h1
  exact iy.plain hm h1 fun k hk=>by rw[h2] at hk;cases hk
 case unOp op t x=>
  split at h<;>try cases h
  rename_i hb
  have:((Op.unary op (ρ' x)).run P w= .ok (v.den β) w)∧v.ids=[]:=by
   rw[hρ]
   generalize ρ x=X at hb
   unfold eUn at hb
   split at hb
   ·cases op<;>simp only[] at hb<;>cases hb
    ·exact⟨by simp[SV.den,SV1.den,Atom.den,Op.unary,Op.intArith],rfl⟩
    ·exact⟨by simp only[SV.den,SV1.den,Atom.den,Op.unary,intBits_xor,Sem.run_pure],rfl⟩
   ·cases op<;>simp only[] at hb<;>cases hb
    exact⟨by simp[SV.den,SV1.den,Atom.den,Op.unary],rfl⟩
   ·cases hb
  exact iy.plain hm this.1 fun k hk=>by rw[this.2] at hk;cases hk
 case convert s d x=>
  split at h<;>try cases h
  rename_i hb
  have:((convert s d (ρ' x)).run P w= .ok (v.den β) w)∧v.ids=[]:=by
   rw[hρ]
   generalize ρ x=X at hb
   unfold eConv at hb
   split at hb<;>try cases hb
   split at hb<;>try cases hb
   rename_i i n z k b hs hd
   have hu:P.underlying d=some (.int k):=(Ty.dD hT hd).2.2.2.2.2.1.1
   have hus:∃u,P.underlying s=some u:=by
    have:=(Ty.dD hT hs).2.2.2.2.2.1
    cases hsh:i.sh with
    | plain u=>rw[hsh] at this;exact⟨_,this.1⟩
    | arr n e=>rw[hsh] at this;exact⟨_,this⟩
    | str fs=>rw[hsh] at this;obtain⟨F,h,_⟩:=this;exact⟨_,h⟩
   obtain⟨u,hus⟩:=hus
   refine⟨?_,rfl⟩
   cases u<;>simp[SV.den,SV1.den,Atom.den,convert,run_underlying hus,run_underlying hu,Conv.intToInt]
  exact iy.plain hm this.1 fun k hk=>by rw[this.2] at hk;cases hk
 case fieldAddr t x f=>
  split at h<;>try cases h
  rename_i hb
  obtain⟨h1,h2⟩:=wK hT hb β w
  rw[←hρ] at h1
  exact iy.plain hm h1 fun k hk=>hids x (by simp[Op.operands]) k (h2 k hk)
 case field t x f=>
  split at h<;>try cases h
  rename_i hb
  obtain⟨h1,h2⟩:=eField_sound hT hb β w
  rw[←hρ] at h1
  exact iy.plain hm h1 fun k hk=>hids x (by simp[Op.operands]) k (h2 k hk)
 case indexAddr t x i=>
  split at h<;>try cases h
  rename_i hb
  obtain⟨h1,h2⟩:=wJ hT hb β w
  rw[←hρ,←hρ] at h1
  exact iy.plain hm h1 fun k hk=>hids x (by simp[Op.operands]) k (h2 k hk)
 case index t x i=>
  split at h<;>try cases h
  rename_i hb
  obtain⟨h1,h2⟩:=eIndex_sound hT hb β w
  rw[←hρ,←hρ] at h1
  exact iy.plain hm h1 fun k hk=>hids x (by simp[Op.operands]) k (h2 k hk)
 case extract x i=>
  split at h<;>try cases h
  rename_i hb
  obtain⟨h1,h2⟩:=eExtract_sound (P:=P) hb β w
  rw[←hρ] at h1
  exact iy.plain hm h1 fun k hk=>hids x (by simp[Op.operands]) k (h2 k hk)
 case makeFunc fn first cap=>
  cases fn<;>simp only[eOp] at h<;>try cases h
  rename_i f
  split at h<;>try cases h
  rename_i hfirst
  have hfirst:first= #[]:=by simpa using hfirst
  subst hfirst
  split at h<;>try cases h
  rename_i l hl
  obtain⟨h1,h2⟩:=wB β ρ' hρ cap.toList l hl
  refine iy.plain hm (v:= .o (.a (.fn f l))) ?_ ?_
  ·have:cap.map ρ'=(l.map (fun p=>Value.pointer (some ((β p.1).at (p.2))))).toArray:=Array.ext' (by simpa using h1)
   simp[Instr.makeFunc,this,SV.den,SV1.den,Atom.den]
  ·intro k hk
   simp only[SV.ids,SV1.ids,Atom.ids,List.mem_map] at hk
   obtain⟨p,hp,rfl⟩:=hk
   obtain⟨x,hx,hk⟩:=h2 p hp
   exact hids x (by simpa [Op.operands] using hx) _ hk
 case slice t x lo hi mx=>
  cases mx<;>simp only[eOp] at h<;>try cases h
  split at h<;>try cases h
  rename_i hb
  obtain⟨h1,h2⟩:=eSlice_sound hT hb β ρ' hρ w
  rw[←hρ] at h1
  exact iy.plain hm h1 fun k hk=>hids x (by simp[Op.operands]) k (h2 k hk)
 case call c=>
  obtain⟨callee,args,argTypes⟩:=c
  cases callee<;>(try simp only[eOp] at h)<;>(try cases h)
  rename_i b
  cases b<;>(try simp only[eOp] at h)<;>(try cases h)
  split at h<;>try cases h
  rename_i x t hargs htypes
  have hargs:args= #[x]:=Array.ext' hargs
  have htypes:argTypes= #[t]:=Array.ext' htypes
  subst hargs htypes
  split at h<;>try cases h
  ·rename_i n e b hi
   have hu:P.underlying t=some (.array n e):=(Ty.dD hT hi).2.2.2.2.2.1
   refine⟨w,β,.inl ?_,fun _ _=>rfl,hm,fun k hk=>by cases hk⟩
   simp[resolve,invoke,builtin,Builtin.len_,run_underlying hu,SV.den,SV1.den,Atom.den,goInt]
  ·rename_i z e b hi
   split at h<;>try cases h
   rename_i k o n cp hx
   have hu:P.underlying t=some (.slice e):=(Ty.dD hT hi).2.2.2.2.2.1.1
   have hx':ρ' x= .slice (some ((β k).at (o))) n cp:=by rw[hρ,hx];rfl
   refine⟨w,β,.inl ?_,fun _ _=>rfl,hm,fun k hk=>by cases hk⟩
   simp[resolve,invoke,builtin,Builtin.len_,run_underlying hu,hx',SV.den,SV1.den,Atom.den,goInt]
 all_goals cases h
end
abbrev Cst:=List Prop
def Holds:Cst→Prop
 | []=>True
 | p::r=>p∧Holds r
theorem aV:∀{a b:Cst},Holds (a++b)→Holds a∧Holds b
 | [],_,h=>⟨trivial,h⟩
 | p::r,_,⟨h1,h2⟩=>⟨⟨h1,(aV h2).1⟩,(aV h2).2⟩
def access:Op→Bool
 | .load _ _ | .store _ _ _ | .call _ | .convert _ _ _ | .slice _ _ none (some _) none=>true
 | _=>false
def Eff.kR:Eff→Bool
 | .new _=>true
 | _=>false
def jV (k:IntKind):List Atom→List Int
 | .v (.int k' n)::r=>if k'=k then n::jV k r else []
 | _=>[]
theorem nJ (k:IntKind):∀cs,∃rest,cs=(jV k cs).map (aG k)++rest
 | []=>⟨[],rfl⟩
 | c::r=>by
  unfold jV
  split
  ·rename_i k' n r' he
   cases he
   split
   ·rename_i hk
    subst hk
    obtain⟨rest,h⟩:=nJ k' r
    exact⟨rest,by rw[List.map_cons,List.cons_append,←h]⟩
   ·exact⟨_,rfl⟩
  ·exact⟨_,rfl⟩
def Row.ints:Row→Nat→Option (IntKind × List Int)
 | .lit cs,b=>match cs.drop b with
  | .v (.int k n)::r=>some (k,n::jV k r)
  | _=>none
 | .run k xs,0=>some (k,xs)
 | .gro k xs _ _,0=>some (k,xs)
 | .pre k xs,0=>some (k,xs)
 | _,_=>none
theorem rF (β:Nat→Loc) (k:IntKind) (xs:List Int):(xs.map (aG k)).map (Atom.den β)=dx k xs:=by
 unfold dx
 rw[List.map_map]
 rfl
theorem nI (k:IntKind) (xs ys:List Int):dx k (xs++ys)=dx k xs++dx k ys:=by unfold dx;rw[List.map_append]
theorem bF (k:IntKind) (xs:List Int):(dx k xs).length=xs.length:=by unfold dx;rw[List.length_map]
theorem rD (k:IntKind) (xs:List Int):∀v∈dx k xs,v.oneCell'=true:=by
 intro v hv
 obtain⟨n,_,rfl⟩:=List.mem_map.1 hv
 rfl
theorem Row.qm {r:Row} {b:Nat} {k:IntKind} {xs:List Int} {β:Nat→Loc} {c:Nat} {C:List Value} (h:r.ints b=some (k,xs)) (hC:r.is β c C):
  ∃pre post,C=pre++(dx k xs++post)∧pre.length=b:=by
 unfold Row.ints at h
 split at h
 ·rename_i bb cs
  have hC:C=cs.map (Atom.den β):=hC
  split at h<;>try cases h
  rename_i k' n r hd
  have hb:b≤cs.length:=by
   rcases Nat.lt_or_ge cs.length b with h' | h'
   ·rw[List.drop_eq_nil_of_le (by omega)] at hd;cases hd
   ·exact h'
  obtain⟨rest,hr⟩:=nJ k r
  refine⟨(cs.take b).map (Atom.den β),rest.map (Atom.den β),?_,by simp;omega⟩
  rw[hC,←rF β,←List.map_append,←List.map_append]
  congr 1
  have e:(n::jV k r).map (aG k)++rest=cs.drop b:=by
   rw[hd,List.map_cons,List.cons_append,←hr]
  rw[e,List.take_append_drop]
 ·cases h
  exact⟨[],[],by rw[List.nil_append,List.append_nil];exact hC,rfl⟩
 ·cases h
  obtain⟨tail,h1,_⟩:=hC
  exact⟨[],tail,by rw[List.nil_append];exact h1,rfl⟩
 ·cases h
  obtain⟨tail,h1⟩:=hC
  exact⟨[],tail,by rw[List.nil_append];exact h1,rfl⟩
 ·cases h
def gJ (o:Nat) (ys:List Int):Nat→List Int→List Int
 | _,[]=>[]
 | i,x::r=>cond (Nat.ble o i&&Nat.blt (i-o) ys.length) (ys.getD (i-o) 0) x::gJ o ys (i+1) r
theorem putI_get (o:Nat) (ys:List Int):∀(xs:List Int) (i j:Nat),(gJ o ys i xs)[j]? =(xs[j]?).map fun x=>cond (Nat.ble o (i+j)&&Nat.blt (i+j-o) ys.length) (ys.getD (i+j-o) 0) x
 | [],i,j=>by simp[gJ]
 | x::r,i,0=>by simp[gJ]
 | x::r,i,j+1=>by
  rw[gJ,List.getElem?_cons_succ,List.getElem?_cons_succ,putI_get o ys r (i+1) j]
  rw[show i+1+j=i+(j+1) by omega]
theorem gI (o:Nat) (ys:List Int):∀(xs:List Int) (i:Nat),(gJ o ys i xs).length=xs.length
 | [],i=>rfl
 | x::r,i=>by rw[gJ,List.length_cons,List.length_cons,gI o ys r]
theorem o9 (o:Nat) (ys xs:List Int) (h:o+ys.length≤xs.length):gJ o ys 0 xs=xs.take o++(ys++xs.drop (o+ys.length)):=by
 apply List.ext_getElem?
 intro j
 rw[putI_get,Nat.zero_add]
 have hto:(xs.take o).length=o:=by simp;omega
 rcases Nat.lt_or_ge j o with h1 | h1
 ·rw[List.getElem?_append_left (by omega),List.getElem?_take_of_lt h1]
  have:Nat.ble o j=false:=by
   rw[Bool.eq_false_iff]
   intro hc
   have:=Nat.le_of_ble_eq_true hc
   omega
  rw[this]
  cases xs[j]? <;>rfl
 ·have hb:Nat.ble o j=true:=Nat.ble_eq_true_of_le h1
  rw[List.getElem?_append_right (by omega),hto,hb]
  rcases Nat.lt_or_ge (j-o) ys.length with h2 | h2
  ·have hb2:Nat.blt (j-o) ys.length=true:=Nat.ble_eq_true_of_le h2
   rw[List.getElem?_append_left h2,hb2,List.getElem?_eq_getElem (show j<xs.length by omega)]
   simp[List.getD,h2]
  ·have hb2:Nat.blt (j-o) ys.length=false:=by
    rw[Bool.eq_false_iff]
    intro hc
    have:j-o<ys.length:=Nat.le_of_ble_eq_true hc
    omega
   rw[List.getElem?_append_right h2,hb2,List.getElem?_drop,show o+ys.length+(j-o-ys.length)=j by omega]
   cases xs[j]? <;>rfl
def Row.put (r:Row) (b o:Nat) (ys:List Int):Option Row:=
 match r with
 | .lit cs=>match Row.ints (.lit cs) b with
  | some (k,xs)=>some (.lit (cs.take b++((gJ o ys 0 xs).map (aG k)++cs.drop (b+xs.length))))
  | none=>none
 | .run k xs=>match b with | 0=>some (.run k (gJ o ys 0 xs)) | _=>none
 | .gro k xs lo hi=>match b with | 0=>some (.gro k (gJ o ys 0 xs) lo hi) | _=>none
 | _=>none
theorem splice_mid {α:Type} (pre A mid post:List α) (o:Nat) (ys:List α) (hA:mid.length=A.length) (ho:o+ys.length≤A.length) (he:mid=A.take o++(ys++A.drop (o+ys.length))):
  pre++(mid++post)=(pre++(A++post)).take (pre.length+o)++(ys++(pre++(A++post)).drop (pre.length+o+ys.length)):=by
 rw[List.take_length_add_append,Nat.add_assoc,List.drop_length_add_append,List.take_append_of_le_length (by omega),List.drop_append_of_le_length (by omega),he]
 simp[List.append_assoc]
theorem ids_ints (k:IntKind):∀xs:List Int,bL (xs.map (aG k))=[]
 | []=>rfl
 | x::r=>by simp[bL,Atom.ids,ids_ints k r]
theorem kK (a b:List Atom):bL (a++b)=bL a++bL b:=by
 induction a with
 | nil=>rfl
 | cons c r ih=>simp[bL,ih]
theorem Row.put_spec {r r':Row} {b o:Nat} {ys:List Int} {k:IntKind} {xs:List Int} {β:Nat→Loc} {c:Nat} {C:List Value} (h:r.put b o ys=some r') (hi:r.ints b=some (k,xs)) (hC:r.is β c C) (ho:o+ys.length≤xs.length):
  r'.is β c (C.take (b+o)++(dx k ys++C.drop (b+o+ys.length)))∧(∀j∈r'.ids,j∈r.ids)∧b+o+ys.length≤C.length:=by
 have hsp:=o9 o ys xs ho
 have hv:dx k (gJ o ys 0 xs)=(dx k xs).take o++(dx k ys++(dx k xs).drop (o+ys.length)):=by
  rw[hsp,nI,nI]
  simp[dx,List.map_take,List.map_drop]
 unfold Row.put at h
 split at h
 ·rename_i cs
  rw[hi] at h
  cases h
  have hC:C=cs.map (Atom.den β):=hC
  unfold Row.ints at hi
  simp only at hi
  split at hi<;>try cases hi
  rename_i k' n rr hd
  have hb:b≤cs.length:=by
   rcases Nat.lt_or_ge cs.length b with h' | h'
   ·rw[List.drop_eq_nil_of_le (by omega)] at hd;cases hd
   ·exact h'
  obtain⟨rest,hr⟩:=nJ k rr
  generalize hxs:n::jV k rr=xs at*
  have e:xs.map (aG k)++rest=cs.drop b:=by
   rw[hd,←hxs,List.map_cons,List.cons_append,←hr]
  have hcs:cs=cs.take b++(xs.map (aG k)++rest):=by rw[e,List.take_append_drop]
  have hlen:(cs.take b).length=b:=by simp;omega
  have hdr:cs.drop (b+xs.length)=rest:=by
   rw[←List.drop_drop,←e,List.drop_left' (by simp)]
  refine⟨?_,?_,?_⟩
  ·show _=(cs.take b++((gJ o ys 0 xs).map (aG k)++cs.drop (b+xs.length))).map (Atom.den β)
   rw[hC,hdr]
   have e2:cs.map (Atom.den β)=(cs.take b).map (Atom.den β)++(dx k xs++rest.map (Atom.den β)):=by
    rw[←rF β,←List.map_append,←List.map_append,←hcs]
   rw[List.map_append,List.map_append,rF,e2]
   have:=splice_mid ((cs.take b).map (Atom.den β)) (dx k xs) (dx k (gJ o ys 0 xs)) (rest.map (Atom.den β)) o (dx k ys) (by rw[bF,bF,gI]) (by rw[bF,bF];exact ho) (by rw[hv,bF])
   rw[List.length_map,hlen,bF] at this
   exact this.symm
  ·intro j hj
   show j∈bL cs
   have hj:j∈bL (cs.take b++((gJ o ys 0 xs).map (aG k)++cs.drop (b+xs.length))):=hj
   rw[kK,kK,ids_ints,List.nil_append,hdr] at hj
   rw[hcs,kK,kK,ids_ints,List.nil_append]
   exact hj
  ·rw[hC,List.length_map]
   have:=congrArg List.length hcs
   simp at this
   omega
 ·rename_i k' xs'
  split at h<;>cases h
  unfold Row.ints at hi
  cases hi
  have hC:C=dx k xs:=hC
  subst hC
  refine⟨?_,fun j hj=>hj,by rw[bF];omega⟩
  show _=dx k (gJ o ys 0 xs)
  rw[Nat.zero_add,hv]
 ·rename_i k xs lo hi'
  split at h<;>cases h
  unfold Row.ints at hi
  cases hi
  obtain⟨tail,h1,h2,h3,h4⟩:=hC
  subst h1
  have:=splice_mid [] (dx k xs) (dx k (gJ o ys 0 xs)) tail o (dx k ys) (by rw[bF,bF,gI]) (by rw[bF,bF];exact ho) (by rw[hv,bF])
  simp only[List.nil_append,List.length_nil,Nat.zero_add,bF] at this
  refine⟨⟨tail,?_,?_,h3,h4⟩,fun j hj=>hj,?_⟩
  ·rw[Nat.zero_add];exact this.symm
  ·rw[Nat.zero_add,←this]
   simp only[List.length_append,bF,gI] at h2 ⊢
   exact h2
  ·simp only[List.length_append,bF];omega
 ·cases h
def ig:SV→Option (Nat × Nat × Nat × Nat)
 | .o (.a (.sld k b o n _))=>some (k,b,o,n)
 | .o (.a (.slc k o n _))=>some (k,o,0,n)
 | .o (.a (.slg k n))=>some (k,0,0,n)
 | _=>none
theorem lD {x:SV} {k b o n:Nat} (h:ig x=some (k,b,o,n)) (β:Nat→Loc):∃c,x.den β= .slice (some ((β k).at (b+o))) n c:=by
 unfold ig at h
 split at h<;>cases h
 ·exact⟨_,rfl⟩
 ·exact⟨_,rfl⟩
 ·exact⟨_,rfl⟩
theorem kM {x:SV} {k b o n:Nat} (h:ig x=some (k,b,o,n)):k∈x.ids:=by
 unfold ig at h
 split at h<;>cases h<;>simp[SV.ids,SV1.ids,Atom.ids]
theorem rX {P:Program} (w:World) (a:Option Addr) (n c:Nat):(Builtin.firstCells 1 0 (.slice a n c)).run P w= .ok #[] w:=by
 cases a with
 | none=>simp[Builtin.firstCells]
 | some x=>
  have:=run_loadCells_list (P:=P) w x [] (fun j v hv=>by simp at hv)
  simpa [Builtin.firstCells] using this
def srcI (m:PM) (kd:IntKind) (x:SV):Option (List Int × Nat × Cst):=
 match ig x with
 | some (k,b,o,n)=>match m k with
  | some bl=>match bl.row.ints b with
   | some (kd',xs)=>if kd'=kd then some ((xs.drop o).take n,n,[o+n≤xs.length]) else none
   | none=>none
  | none=>none
 | none=>match x with
  | .o (.a (.v (.slice _ 0 _)))=>some ([],0,[])
  | _=>none
section
variable {G:Glob} {P:Program} {N:Nat} {w0:Base G}
theorem gN {m:PM} {kd:IntKind} {x:SV} {ys:List Int} {n:Nat} {c:Cst} {β:Nat→Loc} {w:World} (hm:bG N w0 m β w) (h:srcI m kd x=some (ys,n,c)) (hc:Holds c):
  ys.length=n∧∃a cap,x.den β= .slice a n cap∧(∀w',(∀i,i<w.heap.size→w'.heap[i]? =w.heap[i]?)→∀j,j≤n→(Builtin.firstCells 1 j (x.den β)).run P w'= .ok (dx kd (ys.take j)).toArray w'):=by
 unfold srcI at h
 split at h
 ·rename_i k b o n0 hv
  split at h<;>try cases h
  rename_i bl hb
  split at h<;>try cases h
  rename_i kd' xs hi
  split at h<;>cases h
  rename_i hk
  subst hk
  obtain⟨hle,_⟩:=hc
  have hlen:((xs.drop o).take n).length=n:=by simp;omega
  refine⟨hlen,?_⟩
  obtain⟨cap,hden⟩:=lD hv β
  refine⟨_,cap,hden,fun w' hw' j hj=> ?_⟩
  obtain⟨fr,kD,C,hh,hp0,hC,_⟩:=hm.blk k bl hb
  obtain⟨pre,post,hCe,hpre⟩:=Row.qm hi hC
  have hlt:(β k).a<w.heap.size:=by
   rcases Nat.lt_or_ge (β k).a w.heap.size with h' | h'
   ·exact h'
   ·rw[Array.getElem?_eq_none h'] at hh;cases hh
  have hh':w'.heap[(β k).a]? =some (.cells (kD++C).toArray bl.ty fr):=by rw[hw' _ hlt];exact hh
  rw[hden]
  simp only[Builtin.firstCells,Nat.mul_one]
  rw[pR hh' hp0 (by rw[hCe];simp[bF];omega)]
  congr 2
  rw[hCe,←hpre,List.drop_length_add_append,List.drop_append_of_le_length (by rw[bF];omega),List.take_append_of_le_length (by simp[bF];omega)]
  unfold dx
  rw[List.take_take,Nat.min_eq_left hj]
  simp[List.map_take,List.map_drop]
 ·split at h<;>cases h
  exact⟨rfl,_,_,rfl,fun w' _ j hj=>by
   have hj:j=0:=Nat.le_zero.1 hj
   subst hj
   exact rX w' _ 0 _⟩
end
def lN (T:Ty) (t:TypeId):Option (TypeId × IntKind):=
 match T.get t with
 | some ⟨_,_,.plain (.slice e),_⟩=>match T.get e with
  | some ⟨1,[.v (.int kz 0)],.plain (.int kd),_⟩=>if kz=kd then some (e,kd) else none
  | _=>none
 | _=>none
def notInt (T:Ty) (t:TypeId):Bool:=
 match T.get t with
 | some ⟨_,_,.plain (.slice _),_⟩=>true
 | some ⟨_,_,.plain .string,_⟩=>true
 | _=>false
def Room (P:Program) (e:TypeId) (n:Nat):Prop:=∃j,P.info? e=some j∧n*j.bytes≤140737488355328∧(n:Int)≤9223372036854775807
section
variable {P:Program} {T:Ty} (hT:T.ok P)
include hT
theorem kU {t e:TypeId} {kd:IntKind} (h:lN T t=some (e,kd)):P.underlying t=some (.slice e)∧∃j,P.info? e=some j∧j.size=1∧j.zero=some (.int kd 0):=by
 unfold lN at h
 split at h<;>try cases h
 rename_i s0 z0 e0 q0 ht
 split at h<;>try cases h
 rename_i kz kd0 q1 he
 split at h<;>cases h
 rename_i hk
 subst hk
 refine⟨(Ty.dD hT ht).2.2.2.2.2.1.1,?_⟩
 have hok:=Ty.dD hT he
 have h1:=hok.1
 have h2:=hok.2.1
 cases hq:P.info? e with
 | none=>rw[hq] at h1;cases h1
 | some j=>
  rw[hq] at h1 h2
  refine⟨j,rfl,by simpa using h1,?_⟩
  have h2:j.zero=_:=h2
  rw[h2]
  rfl
theorem vX {t:TypeId} (h:notInt T t=true):∃u,P.underlying t=some u∧((∃e',u= .slice e')∨u= .string):=by
 unfold notInt at h
 split at h
 ·rename_i ht
  exact⟨_,(Ty.dD hT ht).2.2.2.2.2.1.1,.inl ⟨_,rfl⟩⟩
 ·rename_i ht
  exact⟨_,(Ty.dD hT ht).2.2.2.2.2.1.1,.inr rfl⟩
 ·cases h
end
theorem run_grow {P:Program} (w:World) {t xt ty e:TypeId} {i:TypeInfo} {z:Value} {u:TypeDesc} (ht:P.underlying t=some (.slice e)) (hx:P.underlying xt=some u) (hu:(∃e',u= .slice e')∨u= .string) (hi:P.info? e=some i) (hz:i.zero=some z) (h1:i.size=1)
  {base:Option Addr} {sLen sCap n:Nat} {x:Value} {olds news:Array Value} (hl:∀w,(Builtin.lenOf x).run P w= .ok n w)
  (ho:(Builtin.firstCells 1 sLen (.slice base sLen sCap)).run P w.drew= .ok olds w.drew) (hn:(Builtin.firstCells 1 n x).run P w.drew= .ok news w.drew)
  (hg:sCap<sLen+n) (h63:((sLen+n:Nat):Int)≤9223372036854775807) (hfit:Builtin.nextslicecap (sLen+n) sCap*i.bytes≤281474976710656):
  (Builtin.append_ #[t,xt] ty #[.slice base sLen sCap,x]).run P w= .ok (.slice (some ⟨w.heap.size,0,none⟩) (sLen+n) (grownCap w (sLen+n) sCap e))
   (w.drew.alloc (.cells (olds++news++Builtin.zeroCells z.cells (grownCap w (sLen+n) sCap e-(sLen+n))) e)):=by
 have hn':¬(sLen+n≤sCap):=by omega
 have h63':¬(9223372036854775807<((sLen:Int)+(n:Int))):=by omega
 have h48':¬(281474976710656<Builtin.nextslicecap (sLen+n) sCap*i.bytes):=by omega
 rcases hu with⟨e',rfl⟩ | rfl<;>simp[Builtin.append_,run_underlying ht,run_underlying hx,sizeOf,typeInfo,zeroValue,hi,hz,h1,hl,hn',h63',h48',Question.forced,ho,hn,newRow,grownCap]
theorem u7 {P:Program} (w w':World) {t xt ty e:TypeId} {i:TypeInfo} {u:TypeDesc} (ht:P.underlying t=some (.slice e)) (hx:P.underlying xt=some u) (hu:(∃e',u= .slice e')∨u= .string) (hi:P.info? e=some i) (h1:i.size=1)
  {a:Addr} {sLen sCap n:Nat} {x:Value} {news:List Value} (hl:∀w,(Builtin.lenOf x).run P w= .ok n w) (hn:(Builtin.firstCells 1 n x).run P w= .ok news.toArray w)
  (hg:sLen+n≤sCap) (hst:(storeCells (a.add sLen) news 0).run P w= .ok () w'):
  (Builtin.append_ #[t,xt] ty #[.slice (some a) sLen sCap,x]).run P w= .ok (.slice (some a) (sLen+n) sCap) w':=by
 rcases hu with⟨e',rfl⟩ | rfl<;>simp[Builtin.append_,run_underlying ht,run_underlying hx,sizeOf,typeInfo,hi,h1,hl,hg,hn,hst]
theorem run_fits0 {P:Program} (w:World) {t xt ty e:TypeId} {i:TypeInfo} {u:TypeDesc} (ht:P.underlying t=some (.slice e)) (hx:P.underlying xt=some u) (hu:(∃e',u= .slice e')∨u= .string) (hi:P.info? e=some i) (h1:i.size=1)
  {a:Option Addr} {x:Value} (hl:∀w,(Builtin.lenOf x).run P w= .ok 0 w) (hn:(Builtin.firstCells 1 0 x).run P w= .ok #[] w):
  (Builtin.append_ #[t,xt] ty #[.slice a 0 0,x]).run P w= .ok (.slice a 0 0) w:=by
 rcases hu with⟨e',rfl⟩ | rfl<;>cases a<;>simp[Builtin.append_,run_underlying ht,run_underlying hx,sizeOf,typeInfo,hi,h1,hl,hn,storeCells]
def SV.fr (fresh:Nat) (e:Eff) (v:SV):SV:=
 match e with
 | .new _=>match v with
  | .o (.a (.slg _ n))=> .o (.a (.slg fresh n))
  | .o (.a (.sld _ b' f n c))=> .o (.a (.sld fresh b' f n c))
  | .o (.a (.slc _ f n c))=> .o (.a (.slc fresh f n c))
  | v=>v
 | _=>v
def growTo (P:Program) (e:TypeId) (kd:IntKind) (zs:List Int) (n:Nat) (c:Cst):Option (SV × Eff × Cst):=
 some (.o (.a (.slg 0 n)),.new ⟨true,e,.gro kd zs n none⟩,c++[Room P e n])
def eApp (P:Program) (T:Ty) (m:PM) (d:Bool) (t xt:TypeId) (s x:SV):Option (SV × Eff × Cst):=
 match lN T t,notInt T xt with
 | some (e,kd),true=>match srcI m kd x with
  | some (ys,nx,c1)=>match s with
   | .o (.a (.slg k n))=>match m k with
    | some ⟨true,_,.gro kd' xs lo none⟩=>if kd'=kd then some (.o (.a (.slg k (n+nx))),.upd k (.gro kd (xs++ys) lo none),c1++[n=xs.length,n+nx≤lo]) else none
    | some ⟨own,_,.gro kd' xs lo (some h)⟩=>if kd'=kd then match own&&d with
      | true=>some (.o (.a (.slg k (n+nx))),.upd k (.gro kd (xs++ys) lo (some h)),c1++[n=xs.length,n+nx≤lo])
      | false=>growTo P e kd (xs++ys) (n+nx) (c1++[n=xs.length,h≤n+nx])
     else none
    | _=>none
   | .o (.a (.sld k b o n c))=>match d with
    | false=>match m k with
     | some ⟨true,ty,row⟩=>match row.ints b,row.put b (o+n) ys with
      | some (kd',xs),some r=>if kd'=kd then some (.o (.a (.sld k b o (n+nx) c)),.upd k r,c1++[n+nx≤c,o+n+nx≤xs.length]) else none
      | _,_=>none
     | _=>none
    | true=>match srcI m kd (.o (.a (.sld k b o n c))) with
     | some (zs,_,c2)=>growTo P e kd (zs++ys) (n+nx) (c1++(c2++[c<n+nx]))
     | none=>none
   | .o (.a (.slc k o n c))=>match d with
    | true=>some (.o (.a (.slc k o n c)),.none,c1++[nx=0,n≤c])
    | false=>match n with
    | 0=>growTo P e kd ys nx (c1++[c<nx])
    | n+1=>match srcI m kd (.o (.a (.slc k o (n+1) c))) with
     | some (zs,_,c2)=>growTo P e kd (zs++ys) (n+1+nx) (c1++(c2++[c<n+1+nx]))
     | none=>none
   | .o (.a (.v (.slice p 0 0)))=>match d with
    | true=>some (.o (.a (.v (.slice p 0 0))),.none,c1++[nx=0])
    | false=>growTo P e kd ys nx (c1++[0<nx])
   | _=>none
  | none=>none
 | _,_=>none
def eCopy (T:Ty) (m:PM) (t:TypeId) (s x:SV):Option (SV × Eff × Cst):=
 match lN T t with
 | some (e,kd)=>match ig s,srcI m kd x with
  | some (k,b,o,n),some (ys,nx,c1)=>match m k with
   | some ⟨true,ty,row⟩=>match row.ints b,row.put b o (ys.take (Nat.min nx n)) with
    | some (kd',xs),some r=>if kd'=kd then some (.o (.a (aG .i64 (Nat.min nx n:Nat))),.upd k r,c1++[o+Nat.min nx n≤xs.length]) else none
    | _,_=>none
   | _=>none
  | _,_=>none
 | none=>none
section
variable {G:Glob} {P:Program} {T:Ty} (hT:T.ok P) {N:Nat} {w0:Base G}
theorem qw {m:PM} {fresh:Nat} {β:Nat→Loc} {w:World} (hm:bG N w0 m β w) (hf:m fresh=none) {t xt ty e:TypeId} {kd:IntKind} {i:TypeInfo} {u:TypeDesc}
  (ht:P.underlying t=some (.slice e)) (hx:P.underlying xt=some u) (hu:(∃e',u= .slice e')∨u= .string) (hi:P.info? e=some i) (hz:i.zero=some (.int kd 0)) (h1:i.size=1)
  {base:Option Addr} {sLen sCap nx:Nat} {x:Value} {zs ys:List Int} (hzl:zs.length=sLen) (hyl:ys.length=nx) (hl:∀w,(Builtin.lenOf x).run P w= .ok nx w)
  (ho:(Builtin.firstCells 1 sLen (.slice base sLen sCap)).run P w.drew= .ok (dx kd zs).toArray w.drew) (hn:(Builtin.firstCells 1 nx x).run P w.drew= .ok (dx kd ys).toArray w.drew)
  (hg:sCap<sLen+nx) (hroom:Room P e (sLen+nx)):
  ∃w' β',(Builtin.append_ #[t,xt] ty #[.slice base sLen sCap,x]).run P w= .ok ((SV.o (.a (.slg fresh (sLen+nx)))).den β') w'∧(∀k,k≠fresh→β' k=β k)∧
   bG N w0 ((Eff.new ⟨true,e,.gro kd (zs++ys) (sLen+nx) none⟩).app m fresh) β' w':=by
 obtain⟨j,hj,hb,h63⟩:=hroom
 rw[hi] at hj
 cases hj
 have hrun:=run_grow w (ty:=ty) ht hx hu hi hz h1 hl ho hn hg h63 (growslice_fits hg hb)
 have hge:=grownCap_ge w (sLen+nx) sCap e
 have hnew:=(hm.drawn).new hf (t:=e) (r:= .gro kd (zs++ys) (sLen+nx) none) (c:=grownCap w (sLen+nx) sCap e)
  (C:=dx kd zs++dx kd ys++(Builtin.zeroCells (Value.int kd 0).cells (grownCap w (sLen+nx) sCap e-(sLen+nx))).toList) (by
   refine⟨_,by rw[nI],?_,hge,fun h hh=>by cases hh⟩
   have hs:=size_zeroCells (Value.int kd 0).cells (grownCap w (sLen+nx) sCap e-(sLen+nx))
   have h11:(Value.int kd 0).cells.size=1:=rfl
   rw[h11,Nat.mul_one] at hs
   simp only[List.length_append,bF,Array.length_toList,hs,hzl,hyl]
   omega) (by intro j hj;cases hj)
 refine⟨_,_,?_,?_,hnew⟩
 ·rw[hrun]
  simp[SV.den,SV1.den,Atom.den,Eng.upd,Loc.at]
  congr 2
  apply Array.ext'
  simp[List.append_assoc]
 ·intro k hk
  simp[Eng.upd,hk]
theorem eH (a:Option Addr) (n c:Nat) (w:World):(Builtin.lenOf (.slice a n c)).run P w= .ok n w:=rfl
include hT
theorem eApp_sound {m:PM} {fresh:Nat} {β:Nat→Loc} {w:World} {d:Bool} {t xt ty:TypeId} {s x v:SV} {e:Eff} {c:Cst} (hm:bG N w0 m β w) (hf:m fresh=none) (hs:∀k∈s.ids,(m k).isSome=true)
  (h:eApp P T m d t xt s x=some (v,e,c)) (hc:Holds c):
  ∃w' β',(Builtin.append_ #[t,xt] ty #[s.den β,x.den β]).run P w= .ok ((v.fr fresh e).den β') w'∧(∀k,k≠fresh→β' k=β k)∧bG N w0 (e.app m fresh) β' w'∧(∀k∈(v.fr fresh e).ids,(e.app m fresh k).isSome=true):=by
 unfold eApp at h
 split at h<;>try cases h
 rename_i e0 kd hek hni
 obtain⟨ht,i,hi,h1,hz⟩:=kU hT hek
 obtain⟨u,hx,hu⟩:=vX hT hni
 split at h<;>try cases h
 rename_i ys nx c1 hsrc
 have newIds:∀(n:Nat) (b:Blk) (k:Nat),k∈(SV.o (.a (.slg fresh n))).ids→((Eff.new b).app m fresh k).isSome=true:=by
  intro n b k hk
  simp only[SV.ids,SV1.ids,Atom.ids,List.mem_singleton] at hk
  subst hk
  simp[Eff.app,Eng.upd]
 split at h
 ·rename_i k n
  split at h
  ·rename_i bty kd' xs lo hb
   split at h<;>cases h
   rename_i hk
   subst hk
   obtain⟨hc1,hn,hle,_⟩:=aV hc
   obtain⟨hyl,a,cap,hxd,hfc⟩:=gN (P:=P) hm hsrc hc1
   obtain⟨fr,kD,C,hh,hp0,⟨tail,hC,hCl,hlo,_⟩,_⟩:=hm.blk k _ hb
   have hfx:=hfc w (fun _ _=>rfl) nx (Nat.le_refl _)
   rw[List.take_of_length_le (by omega)] at hfx
   obtain⟨w',r1,r2⟩:=hm.write (P:=P) hb rfl hh hp0 (dx kd' ys) n (by rw[bF];omega) (rD _ _) (r:= .gro kd' (xs++ys) lo none) (by
    refine⟨tail.drop nx,?_,?_,hlo,fun h hh=>by cases hh⟩
    ·rw[hC,List.take_left' (by rw[bF];exact hn.symm),←List.drop_drop,List.drop_left' (by rw[bF];exact hn.symm),nI,bF,hyl,List.append_assoc]
    ·rw[←hCl]
     simp only[List.length_append,List.length_take,List.length_drop,bF]
     have:=congrArg List.length hC
     simp only[List.length_append,bF] at this
     omega) (by intro j hj;cases hj)
   refine⟨w',β,?_,fun _ _=>rfl,r2,?_⟩
   ·rw[hxd] at hfx ⊢
    exact u7 w w' ht hx hu hi h1 (eH _ _ _) hfx (by omega) (by rw[Loc.gL,Nat.zero_add];exact r1)
   ·intro j hj
    simp only[SV.fr,SV.ids,SV1.ids,Atom.ids,List.mem_singleton] at hj
    subst hj
    simp[Eff.app,hb]
  ·rename_i own bty kd' xs lo hcap hb
   split at h<;>try cases h
   rename_i hk
   subst hk
   split at h
   ·rename_i hod
    cases h
    have hown:own=true:=by
     cases own
     ·cases hod
     ·rfl
    subst hown
    obtain⟨hc1,hn,hle,_⟩:=aV hc
    obtain⟨hyl,a,cap,hxd,hfc⟩:=gN (P:=P) hm hsrc hc1
    obtain⟨fr,kD,C,hh,hp0,⟨tail,hC,hCl,hlo,hhi⟩,_⟩:=hm.blk k _ hb
    have hfx:=hfc w (fun _ _=>rfl) nx (Nat.le_refl _)
    rw[List.take_of_length_le (by omega)] at hfx
    obtain⟨w',r1,r2⟩:=hm.write (P:=P) hb rfl hh hp0 (dx kd' ys) n (by rw[bF];omega) (rD _ _) (r:= .gro kd' (xs++ys) lo (some hcap)) (by
     refine⟨tail.drop nx,?_,?_,hlo,hhi⟩
     ·rw[hC,List.take_left' (by rw[bF];exact hn.symm),←List.drop_drop,List.drop_left' (by rw[bF];exact hn.symm),nI,bF,hyl,List.append_assoc]
     ·rw[←hCl]
      simp only[List.length_append,List.length_take,List.length_drop,bF]
      have:=congrArg List.length hC
      simp only[List.length_append,bF] at this
      omega) (by intro j hj;cases hj)
    refine⟨w',β,?_,fun _ _=>rfl,r2,?_⟩
    ·rw[hxd] at hfx ⊢
     exact u7 w w' ht hx hu hi h1 (eH _ _ _) hfx (by omega) (by rw[Loc.gL,Nat.zero_add];exact r1)
    ·intro j hj
     simp only[SV.fr,SV.ids,SV1.ids,Atom.ids,List.mem_singleton] at hj
     subst hj
     simp[Eff.app,hb]
   ·cases h
    obtain⟨hc,hroom,_⟩:=aV hc
    obtain⟨hc1,hn,hle,_⟩:=aV hc
    obtain⟨hyl,a,cap,hxd,hfc⟩:=gN (P:=P) hm hsrc hc1
    obtain⟨fr,kD,C,hh,hp0,⟨tail,hC,hCl,hlo,hhi⟩,_⟩:=hm.blk k _ hb
    have hlt:=hhi hcap rfl
    have hfx:=hfc w.drew (fun _ _=>rfl) nx (Nat.le_refl _)
    rw[List.take_of_length_le (by omega)] at hfx
    have hfo:(Builtin.firstCells 1 n (.slice (some ((β k).at (0))) n (β k).c)).run P w.drew= .ok (dx kd' xs).toArray w.drew:=by
     simp only[Builtin.firstCells,Nat.mul_one]
     rw[pR (w:=w.drew) hh hp0 (by rw[hC];simp[bF];omega),hC,List.drop_zero,List.take_left' (by rw[bF];exact hn.symm)]
    rw[hxd] at hfx ⊢
    obtain⟨w',β',q1,q2,q3⟩:=qw hm hf (ty:=ty) ht hx hu hi hz h1 hn.symm hyl (eH _ _ _) hfo hfx (by omega) hroom
    exact⟨w',β',q1,q2,q3,newIds _ _⟩
  ·cases h
 ·rename_i k b o n cp
  split at h
  ·split at h<;>try cases h
   rename_i bty row hb
   split at h<;>try cases h
   rename_i kd' xs r hints hput
   split at h<;>cases h
   rename_i hk
   subst hk
   obtain⟨hc1,hcap,hle,_⟩:=aV hc
   obtain⟨hyl,a,cap,hxd,hfc⟩:=gN (P:=P) hm hsrc hc1
   obtain⟨fr,kD,C,hh,hp0,hC,_⟩:=hm.blk k _ hb
   have hfx:=hfc w (fun _ _=>rfl) nx (Nat.le_refl _)
   rw[List.take_of_length_le (by omega)] at hfx
   obtain⟨p1,p2,p3⟩:=Row.put_spec hput hints hC (by omega)
   obtain⟨w',r1,r2⟩:=hm.write (P:=P) hb rfl hh hp0 (dx kd' ys) (b+(o+n)) (by rw[bF];exact p3) (rD _ _) (by rw[bF];exact p1) (fun j hj=>hm.ids k _ hb j (p2 j hj))
   refine⟨w',β,?_,fun _ _=>rfl,r2,?_⟩
   ·rw[hxd] at hfx ⊢
    exact u7 w w' ht hx hu hi h1 (eH _ _ _) hfx hcap (by rw[Loc.gL,Nat.add_assoc];exact r1)
   ·intro j hj
    simp only[SV.fr,SV.ids,SV1.ids,Atom.ids,List.mem_singleton] at hj
    subst hj
    simp[Eff.app,hb]
  ·split at h<;>try cases h
   rename_i zs n' c2 hs2
   obtain⟨hc,hroom,_⟩:=aV hc
   obtain⟨hc1,hc⟩:=aV hc
   obtain⟨hc2,hlt,_⟩:=aV hc
   obtain⟨hyl,a,cap,hxd,hfc⟩:=gN (P:=P) hm hsrc hc1
   obtain⟨hzl,a',cap',hsd,hfo⟩:=gN (P:=P) hm hs2 hc2
   have hnn:n'=n∧cap'=cp:=by
    simp only[SV.den,SV1.den,Atom.den,Value.slice.injEq] at hsd
    exact⟨hsd.2.1.symm,hsd.2.2.symm⟩
   obtain⟨rfl,rfl⟩:=hnn
   have hfx:=hfc w.drew (fun _ _=>rfl) nx (Nat.le_refl _)
   have hfo:=hfo w.drew (fun _ _=>rfl) n' (Nat.le_refl _)
   rw[List.take_of_length_le (by omega)] at hfx hfo
   rw[hxd] at hfx ⊢
   rw[hsd] at hfo ⊢
   obtain⟨w',β',q1,q2,q3⟩:=qw hm hf (ty:=ty) ht hx hu hi hz h1 hzl hyl (eH _ _ _) hfo hfx hlt hroom
   exact⟨w',β',q1,q2,q3,newIds _ _⟩
 ·rename_i k o n cp
  split at h
  ·cases h
   obtain⟨hc1,hn0,hle,_⟩:=aV hc
   obtain⟨hyl,a,cap,hxd,hfc⟩:=gN (P:=P) hm hsrc hc1
   have hfx:=hfc w (fun _ _=>rfl) 0 (Nat.zero_le _)
   rw[List.take_zero] at hfx
   subst hn0
   refine⟨w,β,?_,fun _ _=>rfl,hm,?_⟩
   ·rw[hxd] at hfx ⊢
    exact u7 w w ht hx hu hi h1 (news:=[]) (eH _ _ _) hfx (by omega) (by simp[storeCells])
   ·intro j hj
    exact hs j hj
  ·split at h
   ·cases h
    obtain⟨hc,hroom,_⟩:=aV hc
    obtain⟨hc1,hlt,_⟩:=aV hc
    obtain⟨hyl,a,cap,hxd,hfc⟩:=gN (P:=P) hm hsrc hc1
    have hfx:=hfc w.drew (fun _ _=>rfl) nx (Nat.le_refl _)
    rw[List.take_of_length_le (by omega)] at hfx
    rw[hxd] at hfx ⊢
    have hk:(m k).isSome=true:=hs k (by simp[SV.ids,SV1.ids,Atom.ids])
    obtain⟨bl,hb⟩:=Option.isSome_iff_exists.1 hk
    have hfo:(Builtin.firstCells 1 0 (.slice (some ((β k).at (o))) 0 cp)).run P w.drew= .ok (dx kd []).toArray w.drew:=by
     simp only[Builtin.firstCells,Nat.zero_mul]
     have:=run_loadCells_list (P:=P) w.drew ((β k).at (o)) [] (fun j v hv=>by simp at hv)
     exact this
    obtain⟨w',β',q1,q2,q3⟩:=qw hm hf (ty:=ty) (sLen:=0) (zs:=[]) ht hx hu hi hz h1 rfl hyl (eH _ _ _) hfo hfx (by omega) (by rw[Nat.zero_add];exact hroom)
    rw[Nat.zero_add] at q1 q3
    exact⟨w',β',q1,q2,q3,newIds _ _⟩
   ·rename_i n
    split at h<;>try cases h
    rename_i zs n' c2 hs2
    obtain⟨hc,hroom,_⟩:=aV hc
    obtain⟨hc1,hc⟩:=aV hc
    obtain⟨hc2,hlt,_⟩:=aV hc
    obtain⟨hyl,a,cap,hxd,hfc⟩:=gN (P:=P) hm hsrc hc1
    obtain⟨hzl,a',cap',hsd,hfo⟩:=gN (P:=P) hm hs2 hc2
    have hnn:n'=n+1∧cap'=cp:=by
     simp only[SV.den,SV1.den,Atom.den,Value.slice.injEq] at hsd
     exact⟨hsd.2.1.symm,hsd.2.2.symm⟩
    obtain⟨rfl,rfl⟩:=hnn
    have hfx:=hfc w.drew (fun _ _=>rfl) nx (Nat.le_refl _)
    have hfo:=hfo w.drew (fun _ _=>rfl) (n+1) (Nat.le_refl _)
    rw[List.take_of_length_le (by omega)] at hfx hfo
    rw[hxd] at hfx ⊢
    rw[hsd] at hfo ⊢
    obtain⟨w',β',q1,q2,q3⟩:=qw hm hf (ty:=ty) ht hx hu hi hz h1 hzl hyl (eH _ _ _) hfo hfx hlt hroom
    exact⟨w',β',q1,q2,q3,newIds _ _⟩
 ·rename_i base0
  split at h
  ·cases h
   obtain⟨hc1,hn0,_⟩:=aV hc
   obtain⟨hyl,a,cap,hxd,hfc⟩:=gN (P:=P) hm hsrc hc1
   have hfx:=hfc w (fun _ _=>rfl) 0 (Nat.zero_le _)
   rw[List.take_zero] at hfx
   subst hn0
   refine⟨w,β,?_,fun _ _=>rfl,hm,fun j hj=>by cases hj⟩
   rw[hxd] at hfx ⊢
   exact run_fits0 w ht hx hu hi h1 (eH _ _ _) hfx
  cases h
  obtain⟨hc,hroom,_⟩:=aV hc
  obtain⟨hc1,hlt,_⟩:=aV hc
  obtain⟨hyl,a,cap,hxd,hfc⟩:=gN (P:=P) hm hsrc hc1
  have hfx:=hfc w.drew (fun _ _=>rfl) nx (Nat.le_refl _)
  rw[List.take_of_length_le (by omega)] at hfx
  rw[hxd] at hfx ⊢
  obtain⟨w',β',q1,q2,q3⟩:=qw hm hf (ty:=ty) (base:=base0) (sLen:=0) (sCap:=0) (zs:=[]) ht hx hu hi hz h1 rfl hyl (eH _ _ _) (rX w.drew _ 0 0) hfx (by omega) (by rw[Nat.zero_add];exact hroom)
  rw[Nat.zero_add] at q1 q3
  exact⟨w',β',q1,q2,q3,newIds _ _⟩
 ·cases h
end
section
variable {G:Glob} {P:Program} {T:Ty} (hT:T.ok P) {N:Nat} {w0:Base G}
include hT
theorem eCopy_sound {m:PM} {β:Nat→Loc} {w:World} {t xt ty:TypeId} {s x v:SV} {e:Eff} {c:Cst} (hm:bG N w0 m β w) (fresh:Nat)
  (h:eCopy T m t s x=some (v,e,c)) (hc:Holds c):
  ∃w',(Builtin.copy_ #[t,xt] ty #[s.den β,x.den β]).run P w= .ok (v.den β) w'∧bG N w0 (e.app m fresh) β w'∧v.ids=[]:=by
 unfold eCopy at h
 split at h<;>try cases h
 rename_i e0 kd hek
 obtain⟨ht,i,hi,h1,hz⟩:=kU hT hek
 split at h<;>try cases h
 rename_i k b o n ys nx c1 hv hsrc
 split at h<;>try cases h
 rename_i bty row hb
 split at h<;>try cases h
 rename_i kd' xs r hints hput
 split at h<;>cases h
 rename_i hk
 subst hk
 obtain⟨hc1,hle,_⟩:=aV hc
 obtain⟨hyl,a,cap,hxd,hfc⟩:=gN (P:=P) hm hsrc hc1
 obtain⟨cp,hsd⟩:=lD hv β
 obtain⟨fr,kD,C,hh,hp0,hC,_⟩:=hm.blk k _ hb
 have hmin:Nat.min nx n≤nx:=Nat.min_le_left _ _
 have hfx:=hfc w (fun _ _=>rfl) (Nat.min nx n) hmin
 have hlen:(ys.take (Nat.min nx n)).length=Nat.min nx n:=by rw[List.length_take];omega
 obtain⟨p1,p2,p3⟩:=Row.put_spec hput hints hC (by rw[hlen];exact hle)
 obtain⟨w',r1,r2⟩:=hm.write (P:=P) hb rfl hh hp0 (dx kd' (ys.take (Nat.min nx n))) (b+o) (by rw[bF];exact p3) (rD _ _) (by rw[bF];exact p1) (fun j hj=>hm.ids k _ hb j (p2 j hj))
 refine⟨w',?_,r2,rfl⟩
 rw[hxd] at hfx ⊢
 rw[hsd]
 simp[Builtin.copy_,run_underlying ht,Builtin.lenOf,sizeOf,typeInfo,hi,h1,hfx,r1,SV.den,SV1.den,Atom.den,goInt]
end
def advO (c l o:Nat):Nat:=if c=l then o else o+l
def bnd (ρ:Operand→SV) (dflt:Int):Option Operand→Option Int
 | none=>some dflt
 | some x=>match ρ x with
  | .o (.a (.v (.int _ n)))=>some n
  | _=>none
def aN (o:Nat) (i:Int):Nat→Nat
 | 1=>o+i.toNat
 | s=>o+i.toNat*s
theorem kY (o:Nat) (i:Int) (s:Nat):aN o i s=o+i.toNat*s:=by
 unfold aN
 split
 ·rw[Nat.mul_one]
 ·rfl
def jL (T:Ty) (t:TypeId):Option Nat:=
 match T.get t with
 | some ⟨_,_,.plain (.slice e),_⟩=>match T.get e with
  | some i=>some i.size
  | none=>none
 | _=>none
def pY (T:Ty) (t:TypeId):Option (Nat × Nat):=
 match T.get t with
 | some ⟨_,_,.arr n e,_⟩=>match T.get e with
  | some i=>some (n,i.size)
  | none=>none
 | _=>none
def slTo (ρ:Operand→SV) (k b o n c:Nat) (lo hi:Option Operand):Option (SV × Eff × Cst):=
 match bnd ρ 0 lo,bnd ρ n hi with
 | some L,some H=>some (.o (.a (.sld k b (match lo with | none=>o | some _=>advO c L.toNat o) (H.toNat-L.toNat) (c-L.toNat))),.none,[0≤L,L≤H,H≤c])
 | _,_=>none
def eSl (T:Ty) (ρ:Operand→SV) (d:Bool) (t:TypeId) (x:SV) (lo hi:Option Operand):Option (SV × Eff × Cst):=
 match x with
 | .o (.a (.sld k b o n c))=>match jL T t with
  | some s=>if s=1 then slTo ρ k b o n c lo hi else none
  | none=>none
 | .o (.a (.slc k o n c))=>match d,jL T t with
  | true,some s=>if s=1 then slTo ρ k o 0 n c lo hi else none
  | _,_=>none
 | .o (.a (.ptr k o))=>match d,pY T t with
  | true,some (n,s)=>if s=1 then slTo ρ k o 0 n n lo hi else none
  | _,_=>none
 | _=>none
def eIx (T:Ty) (d:Bool) (t:TypeId) (x ix:SV):Option (SV × Eff × Cst):=
 match ix with
 | .o (.a (.v (.int _ i)))=>match x with
  | .o (.a (.sld k b o n c))=>match jL T t with
   | some s=>some (.o (.a (.ptd k b (aN o i s))),.none,[0≤i,i<n])
   | none=>none
  | .o (.a (.slg k n))=>match jL T t with
   | some s=>some (.o (.a (.ptd k 0 (aN 0 i s))),.none,[0≤i,i<n])
   | none=>none
  | .o (.a (.slc k o n c))=>match d with
   | true=>match jL T t with
    | some s=>some (.o (.a (.ptd k o (aN 0 i s))),.none,[0≤i,i<n])
    | none=>none
   | false=>none
  | .o (.a (.ptr k o))=>match d with
   | true=>match pY T t with
    | some (n,s)=>some (.o (.a (.ptd k o (aN 0 i s))),.none,[0≤i,i<n])
    | none=>none
   | false=>none
  | _=>none
 | _=>none
def takeD (kd:IntKind) (xs:List Int) (o:Nat):Nat→List Atom
 | 0=>[]
 | n+1=>aG kd (xs.getD o 0)::takeD kd xs (o+1) n
def eLd (T:Ty) (m:PM) (t:TypeId) (x:SV):Option (SV × Eff × Cst):=
 match x with
 | .o (.a (.ptd k b o))=>match T.get t,m k with
  | some i,some bl=>match bl.row.ints b with
   | some (kd,xs)=>match i.agg with
    | true=>some (.o (.g (takeD kd xs o i.size)),.none,[o+i.size≤xs.length])
    | false=>some (.o (.a (aG kd (xs.getD o 0))),.none,[o<xs.length])
   | none=>none
  | _,_=>none
 | _=>none
def eSt (T:Ty) (m:PM) (t:TypeId) (x y:SV):Option (SV × Eff × Cst):=
 match x,y with
 | .o (.a (.ptd k b o)),.o y=>match T.get t,m k with
  | some i,some ⟨true,_,row⟩=>match row.ints b with
   | some (kd,xs)=>if Nat.beq y.cells.length i.size&&Nat.beq (jV kd y.cells).length i.size then
     match row.put b o (jV kd y.cells) with
     | some r=>some (eu,.upd k r,[o+i.size≤xs.length])
     | none=>none
    else none
   | none=>none
  | _,_=>none
 | _,_=>none
section
variable {G:Glob} {P:Program} {T:Ty} (hT:T.ok P) {N:Nat} {w0:Base G}
include hT
theorem gu {t:TypeId} {s:Nat} (h:jL T t=some s):∃e,P.underlying t=some (.slice e)∧∀w,(sizeOf e).run P w= .ok s w:=by
 unfold jL at h
 split at h<;>try cases h
 rename_i s0 z0 e0 q0 ht
 split at h<;>cases h
 rename_i i he
 exact⟨e0,(Ty.dD hT ht).2.2.2.2.2.1.1,fun w=>bS hT he w⟩
theorem mP {t:TypeId} {n s:Nat} (h:pY T t=some (n,s)):∃e,P.underlying t=some (.array n e)∧∀w,(sizeOf e).run P w= .ok s w:=by
 unfold pY at h
 split at h<;>try cases h
 rename_i s0 z0 n0 e0 q0 ht
 split at h<;>cases h
 rename_i i he
 exact⟨e0,(Ty.dD hT ht).2.2.2.2.2.1,fun w=>bS hT he w⟩
omit hT in
theorem bnd_spec {ρ:Operand→SV} {ρ':Operand→Value} {β:Nat→Loc} (hρ:∀x,ρ' x=(ρ x).den β) {dflt n:Int} {o:Option Operand} (h:bnd ρ dflt o=some n):
  (o=none∧n=dflt)∨∃x k,o=some x∧ρ' x= .int k n:=by
 unfold bnd at h
 split at h
 ·cases h;exact .inl ⟨rfl,rfl⟩
 ·rename_i x
  split at h<;>cases h
  rename_i k hx
  exact .inr ⟨x,k,rfl,by rw[hρ,hx];rfl⟩
omit hT in
theorem mW {isSlice:Bool} {len cap:Nat} {ρ:Operand→SV} {ρ':Operand→Value} {β:Nat→Loc} (hρ:∀x,ρ' x=(ρ x).den β) {lo hi:Option Operand} {L H:Int} (hl:bnd ρ 0 lo=some L) (hh:bnd ρ len hi=some H)
  (h0:0≤L) (h1:L≤H) (h2:H≤cap) (w:World):(Instr.sliceBounds isSlice len cap (lo.map ρ') (hi.map ρ') none).run P w= .ok (L.toNat,H.toNat,cap) w:=by
 have bh:∀x k code,ρ' x= .int k H→(Instr.sliceBound (ρ' x) cap code).run P w= .ok H.toNat w:=fun x k code hx=>by
  rw[hx]
  exact run_sliceBound w k H cap code (by omega) h2
 have bl:∀x k code,ρ' x= .int k L→(Instr.sliceBound (ρ' x) H.toNat code).run P w= .ok L.toNat w:=fun x k code hx=>by
  rw[hx]
  exact run_sliceBound w k L H.toNat code h0 (by omega)
 rcases bnd_spec hρ hl with⟨rfl,rfl⟩ | ⟨x,k,rfl,hx⟩<;>rcases bnd_spec hρ hh with⟨rfl,rfl⟩ | ⟨y,k',rfl,hy⟩
 ·simp[Instr.sliceBounds]
 ·simp[Instr.sliceBounds,bh y k' _ hy]
 ·simp only[Int.toNat_natCast] at bl
  simp[Instr.sliceBounds,bl x k _ hx]
 ·simp[Instr.sliceBounds,bh y k' _ hy,bl x k _ hx]
omit hT in
theorem uV {ρ:Operand→SV} {k b o n cp:Nat} {lo hi:Option Operand} {v:SV} {e:Eff} {c:Cst} (h:slTo ρ k b o n cp lo hi=some (v,e,c)) (hc:Holds c):
  ∃L H,bnd ρ 0 lo=some L∧bnd ρ n hi=some H∧0≤L∧L≤H∧H≤cp∧e= .none∧v.ids=[k]∧
   ∀(β:Nat→Loc),v.den β= .slice (if cp=L.toNat then some ((β k).at (b+o)) else (some (((β k).at (b+o)):Addr)).map (·.add (L.toNat*1))) (H.toNat-L.toNat) (cp-L.toNat):=by
 unfold slTo at h
 split at h<;>cases h
 rename_i L H hL hH
 obtain⟨h0,h1,h2,_⟩:=hc
 refine⟨L,H,hL,hH,h0,h1,h2,rfl,rfl,fun β=> ?_⟩
 simp only[SV.den,SV1.den,Atom.den]
 congr 1
 cases lo with
 | none=>
  simp only[bnd,Option.some.injEq] at hL
  subst hL
  simp only[Int.toNat_zero,Nat.zero_mul,Option.map_some,Loc.gL,Nat.add_zero]
  split<;>rfl
 | some z=>
  simp only[advO,Option.map_some,Loc.gL,Nat.mul_one]
  split<;>simp[Nat.add_assoc]
theorem eSl_sound {ρ:Operand→SV} {ρ':Operand→Value} {β:Nat→Loc} (hρ:∀x,ρ' x=(ρ x).den β) {d:Bool} {t:TypeId} {x v:SV} {lo hi:Option Operand} {e:Eff} {c:Cst} (h:eSl T ρ d t x lo hi=some (v,e,c)) (hc:Holds c) (w:World):
  e= .none∧(Instr.sliceAt t (x.den β) (lo.map ρ') (hi.map ρ') none).run P w= .ok (v.den β) w∧(∀k∈v.ids,k∈x.ids):=by
 unfold eSl at h
 split at h
 ·rename_i k b o n cp
  split at h<;>try cases h
  rename_i s hse
  split at h<;>try cases h
  rename_i hs1
  subst hs1
  obtain⟨e0,ht,hs⟩:=gu hT hse
  obtain⟨L,H,hL,hH,h0,h1,h2,rfl,hid,hden⟩:=uV h hc
  refine⟨rfl,?_,fun j hj=>by rw[hid] at hj;exact hj⟩
  rw[hden]
  show(Instr.sliceAt t (.slice (some ((β k).at (b+o))) n cp) (lo.map ρ') (hi.map ρ') none).run P w=_
  simp only[Instr.sliceAt,Instr.slice,Sem.run_bind,run_underlying ht,Result.andThen_ok,Sem.run_pure,mW (P:=P) hρ hL hH h0 h1 h2,hs]
 ·rename_i k o n cp
  split at h<;>try cases h
  rename_i s hse
  split at h<;>try cases h
  rename_i hs1
  subst hs1
  obtain⟨e0,ht,hs⟩:=gu hT hse
  obtain⟨L,H,hL,hH,h0,h1,h2,rfl,hid,hden⟩:=uV h hc
  refine⟨rfl,?_,fun j hj=>by rw[hid] at hj;exact hj⟩
  rw[hden,Nat.add_zero]
  show(Instr.sliceAt t (.slice (some ((β k).at (o))) n cp) (lo.map ρ') (hi.map ρ') none).run P w=_
  simp only[Instr.sliceAt,Instr.slice,Sem.run_bind,run_underlying ht,Result.andThen_ok,Sem.run_pure,mW (P:=P) hρ hL hH h0 h1 h2,hs]
 ·rename_i k o
  split at h<;>try cases h
  rename_i n s hse
  split at h<;>try cases h
  rename_i hs1
  subst hs1
  obtain⟨e0,ht,hs⟩:=mP hT hse
  obtain⟨L,H,hL,hH,h0,h1,h2,rfl,hid,hden⟩:=uV h hc
  refine⟨rfl,?_,fun j hj=>by rw[hid] at hj;exact hj⟩
  rw[hden,Nat.add_zero]
  show(Instr.sliceAt t (.pointer (some ((β k).at (o)))) (lo.map ρ') (hi.map ρ') none).run P w=_
  simp only[Instr.sliceAt,Sem.run_bind,run_underlying ht,Result.andThen_ok,Instr.sureAddr,Sem.run_pure,mW (P:=P) hρ hL hH h0 h1 h2,hs]
  congr 2
  split<;>simp_all
 ·cases h
end
section
variable {G:Glob} {P:Program} {T:Ty} (hT:T.ok P) {N:Nat} {w0:Base G}
include hT
theorem eIx_sound {d:Bool} {t:TypeId} {x ix v:SV} {e:Eff} {c:Cst} (h:eIx T d t x ix=some (v,e,c)) (hc:Holds c) (β:Nat→Loc) (w:World):
  e= .none∧(Instr.indexAt t (x.den β) (ix.den β)).run P w= .ok (v.den β) w∧(∀k∈v.ids,k∈x.ids):=by
 unfold eIx at h
 split at h<;>try cases h
 rename_i k0 i
 split at h
 ·rename_i k b o n cp
  split at h<;>cases h
  rename_i s hse
  obtain⟨e0,ht,hs⟩:=gu hT hse
  obtain⟨h0,h1,_⟩:=hc
  refine⟨rfl,?_,fun j hj=>hj⟩
  show(Instr.indexAt t (.slice (some ((β k).at (b+o))) n cp) (.int k0 i)).run P w=_
  simp[Instr.indexAt,asIntOf,run_underlying ht,h0,h1,hs,SV.den,SV1.den,Atom.den,Loc.gL,kY,Nat.add_assoc]
 ·rename_i k n
  split at h<;>cases h
  rename_i s hse
  obtain⟨e0,ht,hs⟩:=gu hT hse
  obtain⟨h0,h1,_⟩:=hc
  refine⟨rfl,?_,fun j hj=>hj⟩
  show(Instr.indexAt t (.slice (some ((β k).at (0))) n (β k).c) (.int k0 i)).run P w=_
  simp[Instr.indexAt,asIntOf,run_underlying ht,h0,h1,hs,SV.den,SV1.den,Atom.den,Loc.gL,kY]
 ·rename_i k o n cp
  split at h<;>try cases h
  split at h<;>cases h
  rename_i s hse
  obtain⟨e0,ht,hs⟩:=gu hT hse
  obtain⟨h0,h1,_⟩:=hc
  refine⟨rfl,?_,fun j hj=>hj⟩
  show(Instr.indexAt t (.slice (some ((β k).at (o))) n cp) (.int k0 i)).run P w=_
  simp[Instr.indexAt,asIntOf,run_underlying ht,h0,h1,hs,SV.den,SV1.den,Atom.den,Loc.gL,kY]
 ·rename_i k o
  split at h<;>try cases h
  split at h<;>cases h
  rename_i n s hse
  obtain⟨e0,ht,hs⟩:=mP hT hse
  obtain⟨h0,h1,_⟩:=hc
  refine⟨rfl,?_,fun j hj=>hj⟩
  show(Instr.indexAt t (.pointer (some ((β k).at (o)))) (.int k0 i)).run P w=_
  simp[Instr.indexAt,asIntOf,run_underlying ht,h0,h1,hs,SV.den,SV1.den,Atom.den,Loc.gL,kY,Instr.sureAddr]
 ·cases h
omit hT in
theorem uU (kd:IntKind) (xs:List Int) (β:Nat→Loc):∀(n o:Nat),o+n≤xs.length→(takeD kd xs o n).map (Atom.den β)=dx kd ((xs.drop o).take n)
 | 0,o,h=>by simp[takeD,dx]
 | n+1,o,h=>by
  have ho:o<xs.length:=by omega
  rw[takeD,List.map_cons,uU kd xs β n (o+1) (by omega),List.drop_eq_getElem_cons ho,List.take_succ_cons]
  simp[dx,Atom.den,List.getD,ho]
omit hT in
theorem uS (kd:IntKind) (xs:List Int):∀(n o:Nat),bL (takeD kd xs o n)=[]
 | 0,o=>rfl
 | n+1,o=>by simp[takeD,bL,Atom.ids,uS kd xs n (o+1)]
theorem eLd_sound {m:PM} {β:Nat→Loc} {w:World} (hm:bG N w0 m β w) {t:TypeId} {x v:SV} {e:Eff} {c:Cst} (h:eLd T m t x=some (v,e,c)) (hc:Holds c):
  e= .none∧(Instr.loadAt t (x.den β)).run P w= .ok (v.den β) w∧v.ids=[]:=by
 unfold eLd at h
 split at h<;>try cases h
 rename_i k b o
 split at h<;>try cases h
 rename_i i bl hi hb
 split at h<;>try cases h
 rename_i kd xs hints
 obtain⟨fr,kD,C,hh,hp0,hC,_⟩:=hm.blk k _ hb
 obtain⟨pre,post,hCe,hpre⟩:=Row.qm hints hC
 have hag:=mV hT hi w
 have hsz:=bS hT hi w
 split at h
 ·rename_i ha
  cases h
  obtain⟨hle,_⟩:=hc
  rw[ha] at hag
  refine⟨rfl,?_,uS _ _ _ _⟩
  simp only[SV.den,SV1.den,Atom.den,Instr.loadAt,Instr.sureAddr,Sem.run_bind,Sem.run_pure,Result.andThen_ok,loadVar,hag,if_true,hsz]
  rw[pR hh hp0 (by rw[hCe];simp[bF];omega),uU kd xs β _ _ hle]
  congr 3
  rw[hCe,←hpre,List.drop_length_add_append,List.drop_append_of_le_length (by rw[bF];omega),List.take_append_of_le_length (by simp[bF];omega)]
  unfold dx
  simp[List.map_take,List.map_drop]
 ·rename_i ha
  cases h
  obtain⟨hle,_⟩:=hc
  rw[ha] at hag
  refine⟨rfl,?_,rfl⟩
  have:w.cell? ((β k).at (b+o))=some (.int kd (xs.getD o 0)):=by
   rw[cell_at hh hp0,hCe,←hpre]
   rw[List.getElem?_append_right (by omega),Nat.add_sub_cancel_left,List.getElem?_append_left (by rw[bF];exact hle)]
   simp[dx,List.getD,hle]
  simp[SV.den,SV1.den,Atom.den,Instr.loadAt,Instr.sureAddr,Sem.run_bind,loadVar,hag,this]
theorem eSt_sound {m:PM} {β:Nat→Loc} {w:World} (hm:bG N w0 m β w) (fresh:Nat) {t:TypeId} {x y v:SV} {e:Eff} {c:Cst} (h:eSt T m t x y=some (v,e,c)) (hc:Holds c):
  ∃w',v=eu∧(Instr.storeAt t (x.den β) (y.den β)).run P w= .ok () w'∧bG N w0 (e.app m fresh) β w':=by
 unfold eSt at h
 split at h<;>try cases h
 rename_i k b o y
 split at h<;>try cases h
 rename_i i bty row hi hb
 split at h<;>try cases h
 rename_i kd xs hints
 split at h<;>try cases h
 rename_i hlen
 split at h<;>cases h
 rename_i r hput
 obtain⟨hle,_⟩:=hc
 simp only[Bool.and_eq_true] at hlen
 have hl1:=Nat.eq_of_beq_eq_true hlen.1
 have hl2:=Nat.eq_of_beq_eq_true hlen.2
 obtain⟨rest,hrest⟩:=nJ kd y.cells
 have hnil:rest=[]:=by
  have:=congrArg List.length hrest
  simp only[List.length_append,List.length_map] at this
  exact List.eq_nil_of_length_eq_zero (by omega)
 rw[hnil,List.append_nil] at hrest
 have hone:jU y.cells=true:=by
  rw[hrest]
  generalize jV kd y.cells=l
  induction l with
  | nil=>rfl
  | cons a r ih=>simp[jU,Atom.one,Value.oneCell',ih]
 have hcells:(y.den β).cells=(dx kd (jV kd y.cells)).toArray:=by
  rw[qE y hone β,←rF β,←hrest]
 obtain⟨fr,kD,C,hh,hp0,hC,_⟩:=hm.blk k _ hb
 obtain⟨p1,p2,p3⟩:=Row.put_spec hput hints hC (by rw[hl2];exact hle)
 obtain⟨w',r1,r2⟩:=hm.write (P:=P) hb rfl hh hp0 (dx kd (jV kd y.cells)) (b+o) (by rw[bF];exact p3) (rD _ _) (by rw[bF];exact p1) (fun j hj=>hm.ids k _ hb j (p2 j hj))
 refine⟨w',rfl,?_,r2⟩
 have hsz:=bS hT hi w
 show(Instr.storeAt t (.pointer (some ((β k).at (b+o)))) (y.den β)).run P w=_
 simp only[Instr.storeAt,Instr.sureAddr,Sem.run_bind,Sem.run_pure,Result.andThen_ok,storeVar,hsz,hcells]
 simp[bF,hl2,r1]
end
def eMk (P:Program) (T:Ty) (t:TypeId) (l c:SV):Option (SV × Eff × Cst):=
 match lN T t with
 | some (e,kd)=>match l,c with
  | .o (.a (.v (.int _ L))),.o (.a (.v (.int _ C)))=>some (.o (.a (.sld 0 0 0 L.toNat C.toNat)),.new ⟨true,e,.run kd (List.replicate C.toNat 0)⟩,[0≤L,L≤C,Room P e C.toNat])
  | _,_=>none
 | none=>none
def eLn (T:Ty) (t:TypeId) (x:SV):Option (SV × Eff × Cst):=
 match jL T t with
 | some _=>match x with
  | .o (.a (.sld _ _ _ n _))=>some (.o (.a (aG .i64 (n:Nat))),.none,[])
  | .o (.a (.slg _ n))=>some (.o (.a (aG .i64 (n:Nat))),.none,[])
  | .o (.a (.v (.slice _ n _)))=>some (.o (.a (aG .i64 (n:Nat))),.none,[])
  | _=>none
 | none=>none
def eBS (T:Ty) (ρ:Operand→SV) (t:TypeId) (len:Nat) (parts:List (Nat × Operand)):Option (SV × Eff × Cst):=
 match T.get t with
 | some ⟨_,_,.plain (.slice e),_⟩=>match T.get e with
  | some j=>if Nat.ble (len*j.size) 16777216&&Nat.blt 0 (len*j.size)&&Nat.beq j.zero.length j.size then
    match nk T (fun i=>some (i*j.size,j.size)) ρ ((List.range (len*j.size)).map fun i=>j.zero.getD (i%j.size) (.v undef)) parts with
    | some cs=>some (.o (.a (.slc 0 0 len len)),.new ⟨true,e,.lit cs⟩,[])
    | none=>none
   else none
  | none=>none
 | _=>none
def eBS0 (T:Ty) (d:Bool) (t:TypeId) (len:Nat) (parts:List (Nat × Operand)):Option (SV × Eff × Cst):=
 match d with
 | false=>match T.get t with
  | some ⟨_,_,.plain (.slice e),_⟩=>match T.get e,len,parts with
   | some _,0,[]=>some (.o (.a (.slc 0 0 0 0)),.new ⟨true,e,.lit []⟩,[])
   | _,_,_=>none
  | _=>none
 | true=>match lN T t,len,parts with
  | some (e,kd),0,[]=>some (.o (.a (.slg 0 0)),.new ⟨true,e,.gro kd [] 0 (some 1)⟩,[])
  | _,_,_=>none
section
variable {G:Glob} {P:Program} {T:Ty} (hT:T.ok P) {N:Nat} {w0:Base G}
include hT
theorem eMk_sound {m:PM} {fresh:Nat} {β:Nat→Loc} {w:World} (hm:bG N w0 m β w) (hf:m fresh=none) {t:TypeId} {l cp v:SV} {e:Eff} {c:Cst} (h:eMk P T t l cp=some (v,e,c)) (hc:Holds c):
  ∃w' β',(Instr.makeSlice t (l.den β) (cp.den β)).run P w= .ok ((v.fr fresh e).den β') w'∧(∀k,k≠fresh→β' k=β k)∧bG N w0 (e.app m fresh) β' w'∧(∀k∈(v.fr fresh e).ids,(e.app m fresh k).isSome=true):=by
 unfold eMk at h
 split at h<;>try cases h
 rename_i e0 kd hek
 obtain⟨ht,i,hi,h1,hz⟩:=kU hT hek
 split at h<;>cases h
 rename_i kl L kc C
 obtain⟨h0,hle,⟨j,hj,hb,h63⟩,_⟩:=hc
 rw[hi] at hj
 cases hj
 have hrun:=run_make w t e0 i (.int kd 0) ht hi hz kl kc L C h0 hle (by
  have:((C.toNat*i.bytes:Nat):Int)≤((140737488355328:Nat):Int):=Int.ofNat_le.2 hb
  rw[Int.natCast_mul,Int.toNat_of_nonneg (by omega),Int.mul_comm] at this
  omega) (by omega)
 rw[h1,Nat.mul_one] at hrun
 have hcells:madeCells (Value.int kd 0).cells C.toNat=(dx kd (List.replicate C.toNat 0)).toArray:=by
  unfold madeCells dx
  apply Array.ext'
  simp[Value.cells]
  apply List.ext_getElem
  ·simp
  ·intro a h1 h2
   simp[Nat.mod_one]
 rw[hcells] at hrun
 have hnew:=hm.new hf (t:=e0) (r:= .run kd (List.replicate C.toNat 0)) (c:=0) (C:=dx kd (List.replicate C.toNat 0)) rfl (by intro j hj;cases hj)
 refine⟨_,_,?_,fun k hk=>by simp[Eng.upd,hk],hnew,?_⟩
 ·show(Instr.makeSlice t (.int kl L) (.int kc C)).run P w=_
  rw[hrun]
  simp[SV.fr,SV.den,SV1.den,Atom.den,Eng.upd,Loc.at]
 ·intro k hk
  simp only[SV.fr,SV.ids,SV1.ids,Atom.ids,List.mem_singleton] at hk
  subst hk
  simp[Eff.app,Eng.upd]
theorem eLn_sound {t ty:TypeId} {x v:SV} {e:Eff} {c:Cst} (h:eLn T t x=some (v,e,c)) (β:Nat→Loc) (w:World):
  e= .none∧v.ids=[]∧(Builtin.len_ #[t] ty #[x.den β]).run P w= .ok (v.den β) w:=by
 unfold eLn at h
 split at h<;>try cases h
 rename_i s hs
 obtain⟨e0,ht,_⟩:=gu hT hs
 have key:∀(a:Option Addr) (n c:Nat),(Builtin.len_ #[t] ty #[.slice a n c]).run P w= .ok (.int .i64 n) w:=fun a n c=>by
  simp only[Builtin.len_,List.getElem?_toArray,List.getElem?_cons_zero,Sem.run_bind,run_underlying ht,Result.andThen_ok]
  rfl
 split at h<;>cases h
 ·exact⟨rfl,rfl,key _ _ _⟩
 ·exact⟨rfl,rfl,key _ _ _⟩
 ·exact⟨rfl,rfl,key _ _ _⟩
theorem eBS_run {m:PM} {fresh:Nat} {β:Nat→Loc} {w:World} (hm:bG N w0 m β w) (hf:m fresh=none) {ρ:Operand→SV} {ρ':Operand→Value} (hρ:∀x,ρ' x=(ρ x).den β) {t:TypeId} {len:Nat} {parts:Array (Nat × Operand)} {v:SV} {e:Eff} {c:Cst}
  (hids:∀p∈parts.toList,∀k∈(ρ p.2).ids,(m k).isSome=true) (h:eBS T ρ t len parts.toList=some (v,e,c)):
  ∃cs e0,e= .new ⟨true,e0,.lit cs⟩∧v= .o (.a (.slc 0 0 len len))∧c=[]∧(∀k∈bL cs,(m k).isSome=true)∧
   (Instr.buildSlice t len (parts.map fun(i,x)=>(i,ρ' x))).run P w= .ok (.slice (some ⟨w.heap.size,0,none⟩) len len) (w.alloc (.cells (cs.map (Atom.den β)).toArray e0)):=by
 unfold eBS at h
 split at h<;>try cases h
 rename_i s0 z0 e0 q0 ht
 split at h<;>try cases h
 rename_i j hj
 split at h<;>try cases h
 rename_i hcond
 simp only[Bool.and_eq_true] at hcond
 have c1:=Nat.le_of_ble_eq_true hcond.1.1
 have c2:0<len*j.size:=Nat.le_of_ble_eq_true hcond.1.2
 have c3:=Nat.eq_of_beq_eq_true hcond.2
 split at h<;>cases h
 rename_i cs hcs
 have hu:P.underlying t=some (.slice e0):=(Ty.dD hT ht).2.2.2.2.2.1.1
 have hok:=Ty.dD hT hj
 have hz:=tZ hT hj w
 have hzc:(if j.agg=true then Value.agg (j.zero.map (Atom.den loc0)).toArray else (j.zero.map (Atom.den loc0)).getD 0 undef).cells=(j.zero.map (Atom.den β)).toArray:=by
  rw[zero_den hT hj β]
  by_cases ha:j.agg=true
  ·rw[if_pos ha];rfl
  ·rw[if_neg ha]
   have hl:=hok.2.2.2.2.1 (by simpa using ha)
   have h1:=hok.2.2.2.1
   match hz:j.zero,hl with
   | [c],_=>
    rw[hz] at h1
    exact(rU c (by simpa [jU] using h1) loc0).1
 generalize (if j.agg=true then Value.agg (j.zero.map (Atom.den loc0)).toArray else (j.zero.map (Atom.den loc0)).getD 0 undef)=Z at hz hzc
 obtain⟨f1,f2⟩:=q9 β ρ' hρ parts.toList _ cs hcs
 have hzero:((Array.range (len*j.size)).map (fun x=>(j.zero.map (Atom.den β)).toArray[x%(j.zero.map (Atom.den β)).toArray.size]!))=(((List.range (len*j.size)).map fun i=>j.zero.getD (i%j.size) (.v undef)).map (Atom.den β)).toArray:=by
  apply Array.ext'
  simp only[Array.toList_map,Array.toList_range,List.map_map]
  apply List.map_congr_left
  intro a ha
  have hlt:a%j.size<j.zero.length:=by
   rw[c3]
   refine Nat.mod_lt _ ?_
   rcases Nat.eq_zero_or_pos j.size with h | h
   ·rw[h,Nat.mul_zero] at c2;omega
   ·exact h
  simp[c3,List.getD]
  rw[List.getElem?_eq_getElem hlt]
  rfl
 have hne:len*j.size≠0:=by omega
 refine⟨cs,e0,rfl,rfl,rfl,?_,?_⟩
 ·intro k hk
  rcases f2 k hk with hk | ⟨p,hp,hk⟩
  ·exfalso
   obtain⟨c,hc,hk⟩:=lM hk
   obtain⟨i,_,rfl⟩:=List.mem_map.1 hc
   have h0:=hok.2.2.1
   rcases Nat.lt_or_ge (i%j.size) j.zero.length with h | h
   ·have:j.zero.getD (i%j.size) (.v undef)∈j.zero:=by simp[List.getD,h]
    have:=jy this hk
    rw[h0] at this
    cases this
   ·rw[List.getD,List.getElem?_eq_none h] at hk
    cases hk
  ·exact hids p hp k hk
 ·simp only[Instr.buildSlice,Sem.run_bind,run_underlying hu,Result.andThen_ok,bS hT hj]
  have hle:¬len*j.size>2^24:=by omega
  rw[←hzero] at f1
  have f1':Instr.fill (fun i=>some (i*j.size,j.size)) ((Array.range (len*j.size)).map (fun x=>(j.zero.map (Atom.den β)).toArray[x%(j.zero.map (Atom.den β)).toArray.size]!)) (parts.map fun(i,x)=>(i,ρ' x)).toList=some (cs.map (Atom.den β)).toArray:=by
   rw[Array.toList_map]
   exact f1
  rw[if_neg hle,if_neg hne]
  simp only[Sem.run_bind,hz,Result.andThen_ok,Sem.run_pure,hzc,f1']
  simp[newRow]
theorem eBS_sound {m:PM} {fresh:Nat} {β:Nat→Loc} {w:World} (hm:bG N w0 m β w) (hf:m fresh=none) {ρ:Operand→SV} {ρ':Operand→Value} (hρ:∀x,ρ' x=(ρ x).den β) {t:TypeId} {len:Nat} {parts:Array (Nat × Operand)} {v:SV} {e:Eff} {c:Cst}
  (hids:∀p∈parts.toList,∀k∈(ρ p.2).ids,(m k).isSome=true) (h:eBS T ρ t len parts.toList=some (v,e,c)):
  ∃w' β',(Instr.buildSlice t len (parts.map fun(i,x)=>(i,ρ' x))).run P w= .ok ((v.fr fresh e).den β') w'∧(∀k,k≠fresh→β' k=β k)∧bG N w0 (e.app m fresh) β' w'∧(∀k∈(v.fr fresh e).ids,(e.app m fresh k).isSome=true):=by
 obtain⟨cs,e0,rfl,rfl,rfl,hi,hrun⟩:=eBS_run hT (w:=w) hm hf hρ hids h
 have hnew:=hm.new hf (t:=e0) (r:= .lit cs) (c:=0) (C:=cs.map (Atom.den β)) rfl hi
 refine⟨_,_,?_,fun k hk=>by simp[Eng.upd,hk],hnew,?_⟩
 ·rw[hrun]
  simp[SV.fr,SV.den,SV1.den,Atom.den,Eng.upd,Loc.at]
 ·intro k hk
  simp only[SV.fr,SV.ids,SV1.ids,Atom.ids,List.mem_singleton] at hk
  subst hk
  simp[Eff.app,Eng.upd]
end
section
variable {G:Glob} {P:Program} {T:Ty} (hT:T.ok P) {N:Nat} {w0:Base G}
include hT
theorem eBS0_sound {m:PM} {fresh:Nat} {β:Nat→Loc} {w:World} (hm:bG N w0 m β w) (hf:m fresh=none) (ρ':Operand→Value) {t:TypeId} {d:Bool} {len:Nat} {parts:Array (Nat × Operand)} {v:SV} {e:Eff} {c:Cst} (h:eBS0 T d t len parts.toList=some (v,e,c)):
  ∃w' β',(Instr.buildSlice t len (parts.map fun(i,x)=>(i,ρ' x))).run P w= .ok ((v.fr fresh e).den β') w'∧(∀k,k≠fresh→β' k=β k)∧bG N w0 (e.app m fresh) β' w'∧(∀k∈(v.fr fresh e).ids,(e.app m fresh k).isSome=true):=by
 cases d with
 | false=>
  simp only[eBS0] at h
  split at h<;>try cases h
  rename_i s0 z0 e0 q0 ht
  split at h<;>cases h
  rename_i j he hp
  have hp:parts= #[]:=Array.ext' hp
  subst hp
  have hu:P.underlying t=some (.slice e0):=(Ty.dD hT ht).2.2.2.2.2.1.1
  have hnew:=hm.new hf (t:=e0) (r:= .lit []) (c:=0) (C:=[]) rfl (by intro k hk;cases hk)
  refine⟨_,_,?_,fun k hk=>by simp[Eng.upd,hk],hnew,?_⟩
  ·simp[Instr.buildSlice,run_underlying hu,bS hT he,Instr.fill,newRow,SV.fr,SV.den,SV1.den,Atom.den,Eng.upd,Loc.at]
   congr 2
   apply Array.ext'
   simp
  ·intro k hk
   simp only[SV.fr,SV.ids,SV1.ids,Atom.ids,List.mem_singleton] at hk
   subst hk
   simp[Eff.app,Eng.upd]
 | true=>
  simp only[eBS0] at h
  split at h<;>cases h
  rename_i e0 kd hek hp
  have hp:parts= #[]:=Array.ext' hp
  subst hp
  obtain⟨hu,j,hj,h1,hz⟩:=kU hT hek
  have hsz:∀w,(sizeOf e0).run P w= .ok 1 w:=fun w=>by simp[sizeOf,typeInfo,hj,h1]
  have hnew:=hm.new hf (t:=e0) (r:= .gro kd [] 0 (some 1)) (c:=0) (C:=[]) ⟨[],rfl,rfl,Nat.le_refl _,fun h hh=>by cases hh;exact Nat.one_pos⟩ (by intro k hk;cases hk)
  refine⟨_,_,?_,fun k hk=>by simp[Eng.upd,hk],hnew,?_⟩
  ·simp[Instr.buildSlice,run_underlying hu,hsz,Instr.fill,newRow,SV.fr,SV.den,SV1.den,Atom.den,Eng.upd,Loc.at]
   congr 2
   apply Array.ext'
   simp
  ·intro k hk
   simp only[SV.fr,SV.ids,SV1.ids,Atom.ids,List.mem_singleton] at hk
   subst hk
   simp[Eff.app,Eng.upd]
end
def kI (s:ByteArray):List Int:=s.data.toList.map fun b=>(b.toNat:Int)
def textOf (ys:List Int):ByteArray:=ys.foldl (fun r n=>r.push (UInt8.ofNat n.toNat)) ByteArray.empty
theorem bytesI_length (s:ByteArray):(kI s).length=s.size:=by
 unfold kI
 rw[List.length_map]
 rfl
def isStr (T:Ty) (t:TypeId):Bool:=match T.get t with
 | some ⟨_,_,.plain .string,_⟩=>true
 | _=>false
def ptrNil:SV→Option Bool
 | .o (.a (.ptr _ _))=>some false
 | .o (.a (.ptd _ _ _))=>some false
 | .o (.a (.v (.pointer none)))=>some true
 | _=>none
def slcNil:SV→Option Bool
 | .o (.a (.slc _ _ _ _))=>some false
 | .o (.a (.sld _ _ _ _ _))=>some false
 | .o (.a (.slg _ _))=>some false
 | .o (.a (.v (.slice a _ _)))=>some a.isNone
 | _=>none
theorem vV {x:SV} {n:Bool} (h:ptrNil x=some n) (β:Nat→Loc):∃a:Option Addr,x.den β= .pointer a∧a.isNone=n:=by
 unfold ptrNil at h
 split at h<;>cases h<;>exact⟨_,rfl,rfl⟩
theorem vT {x:SV} {n:Bool} (h:slcNil x=some n) (β:Nat→Loc):∃(a:Option Addr) (l c:Nat),x.den β= .slice a l c∧a.isNone=n:=by
 unfold slcNil at h
 split at h<;>cases h<;>exact⟨_,_,_,rfl,rfl⟩
def ng (T:Ty) (t:TypeId):Option Bool:=match T.get t with
 | some ⟨_,_,.plain (.pointer _),_⟩=>some false
 | some ⟨_,_,.plain (.slice _),_⟩=>some true
 | _=>none
def eBn (T:Ty) (op:BinOp) (t:TypeId) (x y:SV):Option (SV × Eff × Cst):=
 match x,y with
 | .o (.a (.v (.string a))),.o (.a (.v (.string b)))=>match op with
  | .eql=>some (.o (.a (fH (a.toList==b.toList))),.none,[])
  | .neq=>some (.o (.a (fH (!(a.toList==b.toList)))),.none,[])
  | _=>none
 | x,.o (.a (.v (.pointer none)))=>match ng T t,ptrNil x,op with
  | some false,some n,.eql=>some (.o (.a (fH n)),.none,[])
  | some false,some n,.neq=>some (.o (.a (fH (!n))),.none,[])
  | _,_,_=>none
 | x,.o (.a (.v (.slice none 0 0)))=>match ng T t,slcNil x,op with
  | some true,some n,.eql=>some (.o (.a (fH n)),.none,[])
  | some true,some n,.neq=>some (.o (.a (fH (!n))),.none,[])
  | _,_,_=>none
 | _,_=>none
def eStIx (T:Ty) (t:TypeId) (x ix:SV):Option (SV × Eff × Cst):=
 match x,ix with
 | .o (.a (.v (.string s))),.o (.a (.v (.int _ i)))=>if isStr T t then some (.o (.a (aG .u8 ((kI s).getD i.toNat 0))),.none,[0≤i,i<s.size]) else none
 | _,_=>none
def eCv (T:Ty) (m:PM) (s t:TypeId) (x:SV):Option (SV × Eff × Cst):=
 match x with
 | .o (.a (.v (.string a)))=>if isStr T s then match lN T t with
   | some (e,.u8)=>some (.o (.a (.slg 0 a.size)),.new ⟨true,e,.gro .u8 (kI a) a.size none⟩,[])
   | _=>none
  else none
 | x=>if isStr T t then match lN T s with
   | some (_,.u8)=>match ig x,srcI m .u8 x with
    | some _,some (ys,_,c)=>some (.o (.a (.v (.string (textOf ys)))),.none,c)
    | _,_=>none
   | _=>none
  else none
def eCvS (T:Ty) (m:PM) (s t:TypeId) (x:SV):Option (SV × Eff × Cst):=
 match x with
 | .o (.a (.slc k o n c))=>match m k,lN T t with
  | some ⟨true,_,_⟩,some (_,.u8)=>if Nat.beq s t then some (.o (.a (.slc k o n c)),.none,[]) else none
  | _,_=>none
 | _=>none
def eStLn (T:Ty) (t:TypeId) (x:SV):Option (SV × Eff × Cst):=
 match x with
 | .o (.a (.v (.string s)))=>if isStr T t then some (.o (.a (aG .i64 (s.size:Nat))),.none,[]) else none
 | _=>none
def eGIx (T:Ty) (t:TypeId) (x ix:SV):Option (SV × Eff × Cst):=
 match x,ix with
 | .o (.a (.v (.pointer (some ⟨g,o,none⟩)))),.o (.a (.v (.int _ i)))=>match pY T t with
  | some (n,s)=>some (.o (.a (.v (.pointer (some ⟨g,aN o i s,none⟩)))),.none,[0≤i,i<n])
  | none=>none
 | .o (.a (.v (.slice (some ⟨g,o,none⟩) n _))),.o (.a (.v (.int _ i)))=>match jL T t with
  | some s=>some (.o (.a (.v (.pointer (some ⟨g,aN o i s,none⟩)))),.none,[0≤i,i<n])
  | none=>none
 | _,_=>none
def glbV (G:Glob) (g o:Nat):Value:=match G g with
 | some cs=>(cs.getD o (.v undef)).den fun _=>⟨0,0,0⟩
 | none=>undef
def glbA (G:Glob) (g:Nat):Nat→Nat→List Atom
 | _,0=>[]
 | o,n+1=> .v (glbV G g o)::glbA G g (o+1) n
def eGLdV (G:Glob) (T:Ty) (t:TypeId) (x:SV):Option (SV × Eff × Cst):=
 match x with
 | .o (.a (.v (.pointer (some ⟨g,o,none⟩))))=>match T.get t with
  | some i=>match i.agg with
   | false=>some (.o (.a (.v (glbV G g o))),.none,[∃cs,G g=some cs∧o+1≤cs.length])
   | true=>some (.o (.g (glbA G g o i.size)),.none,[∃cs,G g=some cs∧o+i.size≤cs.length])
  | none=>none
 | _=>none
def eGLd (G:Glob) (T:Ty) (t:TypeId) (x:SV):Option (SV × Eff × Cst):=
 match x with
 | .o (.a (.v (.pointer (some ⟨g,o,none⟩))))=>match T.get t,G g with
  | some i,some cs=>match (Row.lit cs).ints 0,i.agg with
   | some (kd,xs),false=>some (.o (.a (aG kd (xs.getD o 0))),.none,[o<xs.length])
   | _,_=>none
  | _,_=>none
 | _=>none
section
variable {G:Glob} {P:Program} {T:Ty} (hT:T.ok P) {N:Nat} {w0:Base G}
include hT
theorem oK {t:TypeId} (h:isStr T t=true):P.underlying t=some .string:=by
 unfold isStr at h
 split at h
 ·rename_i ht
  exact(Ty.dD hT ht).2.2.2.2.2.1.1
 ·cases h
theorem eStLn_sound {t ty:TypeId} {x v:SV} {e:Eff} {c:Cst} (h:eStLn T t x=some (v,e,c)) (β:Nat→Loc) (w:World):
  e= .none∧v.ids=[]∧(Builtin.len_ #[t] ty #[x.den β]).run P w= .ok (v.den β) w:=by
 unfold eStLn at h
 split at h<;>try cases h
 split at h<;>cases h
 rename_i hs
 exact⟨rfl,rfl,run_len_string w t ty _ (oK hT hs)⟩
theorem eStIx_sound {t:TypeId} {x ix v:SV} {e:Eff} {c:Cst} (h:eStIx T t x ix=some (v,e,c)) (hc:Holds c) (β:Nat→Loc) (w:World):
  e= .none∧v.ids=[]∧(Instr.index t (x.den β) (ix.den β)).run P w= .ok (v.den β) w:=by
 unfold eStIx at h
 split at h<;>try cases h
 rename_i s k i
 split at h<;>cases h
 rename_i hs
 obtain⟨h0,h1,_⟩:=hc
 refine⟨rfl,rfl,?_⟩
 show(Instr.index t (.string s) (.int k i)).run P w=_
 rw[run_index_string w t s k i (oK hT hs),dif_pos ⟨h0,h1⟩]
 have hlt:i.toNat<s.size:=by omega
 have:(kI s).getD i.toNat 0=((s[i.toNat]'hlt).toNat:Int):=by
  unfold kI
  have hl:i.toNat<s.data.toList.length:=by rw[Array.length_toList];exact hlt
  simp only[List.getD,List.getElem?_map,List.getElem?_eq_getElem hl]
  simp
  rfl
 simp only[SV.den,SV1.den,Atom.den,this]
theorem eCv_sound {m:PM} {fresh:Nat} {β:Nat→Loc} {w:World} (hm:bG N w0 m β w) (hf:m fresh=none) {s t:TypeId} {x v:SV} {e:Eff} {c:Cst} (h:eCv T m s t x=some (v,e,c)) (hc:Holds c):
  ∃w' β',(convert s t (x.den β)).run P w= .ok ((v.fr fresh e).den β') w'∧(∀k,k≠fresh→β' k=β k)∧bG N w0 (e.app m fresh) β' w'∧(∀k∈(v.fr fresh e).ids,(e.app m fresh k).isSome=true):=by
 unfold eCv at h
 split at h
 ·rename_i a
  split at h<;>try cases h
  rename_i hs
  split at h<;>cases h
  rename_i e0 hek
  obtain⟨ht,i,hi,h1,hz⟩:=kU hT hek
  have he:P.underlying e0=some (.int .u8):=by
   unfold lN at hek
   split at hek<;>try cases hek
   split at hek<;>try cases hek
   rename_i he
   split at hek<;>cases hek
   exact(Ty.dD hT he).2.2.2.2.2.1.1
  have hrun:=run_bytes_of_string w s t e0 a (oK hT hs) ht he
  have hge:=grownCap_ge w a.size 0 e0
  generalize hcap:grownCap w a.size 0 e0=cap at*
  have hrow:bytesRow a cap=(dx .u8 (kI a)++List.replicate (cap-a.size) (Value.int .u8 0)).toArray:=by
   apply Array.ext'
   simp[bytesRow,dx,kI,List.map_map,Function.comp_def]
  rw[hrow] at hrun
  have hnew:=(hm.drawn).newF hf (t:=e0) (r:= .gro .u8 (kI a) a.size none) (C:=dx .u8 (kI a)++List.replicate (cap-a.size) (Value.int .u8 0)) (c:=cap) true
   ((dx .u8 (kI a)++List.replicate (cap-a.size) (Value.int .u8 0)).toArray.size,(dx .u8 (kI a)++List.replicate (cap-a.size) (Value.int .u8 0)).toArray.size+1) (fun h=> .inr (by simp))
   ⟨_,rfl,by simp only[List.length_append,bF,bytesI_length,List.length_replicate];omega,hge,fun h hh=>by cases hh⟩ (by intro j hj;cases hj)
  refine⟨_,_,?_,fun k hk=>by simp[Eng.upd,hk],hnew,?_⟩
  ·show(convert s t (.string a)).run P w=_
   rw[hrun]
   simp[SV.fr,SV.den,SV1.den,Atom.den,Eng.upd,Loc.at]
  ·intro k hk
   simp only[SV.fr,SV.ids,SV1.ids,Atom.ids,List.mem_singleton] at hk
   subst hk
   simp[Eff.app,Eng.upd]
 ·split at h<;>try cases h
  rename_i hstr
  split at h<;>try cases h
  rename_i e0 hek
  obtain⟨ht,i,hi,h1,hz⟩:=kU hT hek
  have he:P.underlying e0=some (.int .u8):=by
   unfold lN at hek
   split at hek<;>try cases hek
   split at hek<;>try cases hek
   rename_i he
   split at hek<;>cases hek
   exact(Ty.dD hT he).2.2.2.2.2.1.1
  split at h<;>cases h
  rename_i vw ys n hv hsrc
  obtain⟨k,b,o,n'⟩:=vw
  obtain⟨cp,hden⟩:=lD hv β
  obtain⟨hyl,a,cap,hxd,hfc⟩:=gN (P:=P) hm hsrc hc
  have hn:n=n'∧a=some ((β k).at (b+o)):=by
   rw[hden] at hxd
   simp only[Value.slice.injEq] at hxd
   exact⟨hxd.2.1.symm,hxd.1.symm⟩
  obtain⟨rfl,rfl⟩:=hn
  have hfx:=hfc w (fun _ _=>rfl) n (Nat.le_refl _)
  rw[List.take_of_length_le (by omega),hxd] at hfx
  simp only[Builtin.firstCells,Nat.mul_one] at hfx
  refine⟨w,β,?_,fun _ _=>rfl,hm,fun k hk=>by cases hk⟩
  rw[hxd,run_convert_bytes_string w s t e0 _ _ _ ht he (oK hT hstr),run_bytesToString w _ _ _ ys hfx]
  rfl
theorem eGIx_sound {t:TypeId} {x ix v:SV} {e:Eff} {c:Cst} (h:eGIx T t x ix=some (v,e,c)) (hc:Holds c) (β:Nat→Loc) (w:World):
  e= .none∧v.ids=[]∧(Instr.indexAt t (x.den β) (ix.den β)).run P w= .ok (v.den β) w:=by
 unfold eGIx at h
 split at h<;>try cases h
 ·rename_i g o k i
  split at h<;>cases h
  rename_i n s hse
  obtain⟨e0,ht,hs⟩:=mP hT hse
  obtain⟨h0,h1,_⟩:=hc
  refine⟨rfl,rfl,?_⟩
  show(Instr.indexAt t (.pointer (some ⟨g,o,none⟩)) (.int k i)).run P w=_
  simp[Instr.indexAt,asIntOf,run_underlying ht,h0,h1,hs,SV.den,SV1.den,Atom.den,Addr.add_eq,kY,Instr.sureAddr]
 ·rename_i g o n cp k i
  split at h<;>cases h
  rename_i s hse
  obtain⟨e0,ht,hs⟩:=gu hT hse
  obtain⟨h0,h1,_⟩:=hc
  refine⟨rfl,rfl,?_⟩
  show(Instr.indexAt t (.slice (some ⟨g,o,none⟩) n cp) (.int k i)).run P w=_
  simp[Instr.indexAt,asIntOf,run_underlying ht,h0,h1,hs,SV.den,SV1.den,Atom.den,Addr.add_eq,kY]
omit hT in
theorem glbA_den {G:Glob} {g:Nat} {cs:List Atom} (hg:G g=some cs) (β:Nat→Loc):∀(n o:Nat),o+n≤cs.length→(glbA G g o n).map (Atom.den β)=((cs.map (Atom.den fun _=>⟨0,0,0⟩)).drop o).take n
 | 0,o,h=>by simp[glbA]
 | n+1,o,h=>by
  have ho:o<(cs.map (Atom.den fun _=>⟨0,0,0⟩)).length:=by rw[List.length_map];omega
  rw[glbA,List.map_cons,glbA_den hg β n (o+1) (by omega),List.drop_eq_getElem_cons ho,List.take_succ_cons]
  congr 1
  simp only[Atom.den,glbV,hg]
  rw[List.getElem_map,List.getD,List.getElem?_eq_getElem (by omega)]
  rfl
omit hT in
theorem glbA_ids (G:Glob) (g:Nat):∀(n o:Nat),bL (glbA G g o n)=[]
 | 0,o=>rfl
 | n+1,o=>by simp[glbA,bL,Atom.ids,glbA_ids G g n (o+1)]
theorem eGLdV_sound {m:PM} {β:Nat→Loc} {w:World} (hm:bG N w0 m β w) {t:TypeId} {x v:SV} {e:Eff} {c:Cst} (h:eGLdV G T t x=some (v,e,c)) (hc:Holds c):
  e= .none∧v.ids=[]∧(Instr.loadAt t (x.den β)).run P w= .ok (v.den β) w:=by
 unfold eGLdV at h
 split at h<;>try cases h
 rename_i g o
 split at h<;>try cases h
 rename_i i hi
 have hag:=mV hT hi w
 split at h<;>cases h
 ·rename_i ha
  rw[ha] at hag
  obtain⟨⟨cs,hg,hle⟩,_⟩:=hc
  obtain⟨h1,h2,h3,ty,fr,h4⟩:=hm.glob g cs hg
  have hh:=hm.below.block g h1 h2
  rw[h4] at hh
  refine⟨rfl,rfl,?_⟩
  have:w.cell? ⟨g,o,none⟩=some (glbV G g o):=by
   simp only[World.cell?,hh,List.getElem?_toArray,List.getElem?_map,glbV,hg]
   rw[List.getD,List.getElem?_eq_getElem (by omega)]
   rfl
  show(Instr.loadAt t (.pointer (some ⟨g,o,none⟩))).run P w=_
  simp[SV.den,SV1.den,Atom.den,Instr.loadAt,Instr.sureAddr,Sem.run_bind,loadVar,hag,this]
 ·rename_i ha
  rw[ha] at hag
  have hsz:=bS hT hi w
  obtain⟨⟨cs,hg,hle⟩,_⟩:=hc
  obtain⟨h1,h2,h3,ty,fr,h4⟩:=hm.glob g cs hg
  have hh:=hm.below.block g h1 h2
  rw[h4] at hh
  refine⟨rfl,glbA_ids G g _ _,?_⟩
  show(Instr.loadAt t (.pointer (some ⟨g,o,none⟩))).run P w=_
  simp only[SV.den,SV1.den,Instr.loadAt,Instr.sureAddr,Sem.run_bind,Sem.run_pure,Result.andThen_ok,loadVar,hag,if_true,hsz]
  rw[sU w g o i.size _ ty fr hh (by rw[List.length_map];exact hle),glbA_den hg β i.size o hle]
  rfl
theorem eGLd_sound {m:PM} {β:Nat→Loc} {w:World} (hm:bG N w0 m β w) {t:TypeId} {x v:SV} {e:Eff} {c:Cst} (h:eGLd G T t x=some (v,e,c)) (hc:Holds c):
  e= .none∧v.ids=[]∧(Instr.loadAt t (x.den β)).run P w= .ok (v.den β) w:=by
 unfold eGLd at h
 split at h<;>try cases h
 rename_i g o
 split at h<;>try cases h
 rename_i i cs hi hg
 split at h<;>cases h
 rename_i kd xs hints ha
 obtain⟨hle,_⟩:=hc
 have hag:=mV hT hi w
 rw[ha] at hag
 obtain⟨h1,h2,h3,ty,fr,h4⟩:=hm.glob g cs hg
 have hh:=hm.below.block g h1 h2
 rw[h4] at hh
 obtain⟨pre,post,hC,hp⟩:=Row.qm (β:=fun _=>⟨0,0,0⟩) (c:=0) (C:=cs.map (Atom.den fun _=>⟨0,0,0⟩)) hints rfl
 rw[List.eq_nil_of_length_eq_zero hp,List.nil_append] at hC
 refine⟨rfl,rfl,?_⟩
 have:w.cell? ⟨g,o,none⟩=some (.int kd (xs.getD o 0)):=by
  simp only[World.cell?,hh,hC]
  simp only[List.getElem?_toArray]
  rw[List.getElem?_append_left (by rw[bF];exact hle)]
  simp[dx,List.getD,hle]
 show(Instr.loadAt t (.pointer (some ⟨g,o,none⟩))).run P w=_
 simp[SV.den,SV1.den,Atom.den,Instr.loadAt,Instr.sureAddr,Sem.run_bind,loadVar,hag,this]
theorem rR {t:TypeId} {b:Bool} (h:ng T t=some b):∃u,P.underlying t=some u∧(b=false→∃e,u= .pointer e)∧(b=true→∃e,u= .slice e):=by
 unfold ng at h
 split at h<;>cases h
 ·rename_i ht
  exact⟨_,(Ty.dD hT ht).2.2.2.2.2.1.1,(fun _=>⟨_,rfl⟩),(fun h=>by cases h)⟩
 ·rename_i ht
  exact⟨_,(Ty.dD hT ht).2.2.2.2.2.1.1,(fun h=>by cases h),(fun _=>⟨_,rfl⟩)⟩
omit hT in
theorem nK {op:BinOp} {t:TypeId} {xo yo:Operand} {a b:Value} (h:(∃p q,a= .pointer p∧b= .pointer q)∨(∃p n c q n' c',a= .slice p n c∧b= .slice q n' c')∨∃p q,a= .string p∧b= .string q) (w:World):
  (eqGuard op t xo yo a b).run P w= .ok () w:=by
 rcases h with⟨p,q,rfl,rfl⟩ | ⟨p,n,c,q,n',c',rfl,rfl⟩ | ⟨p,q,rfl,rfl⟩<;>unfold eqGuard<;>split<;>simp
theorem eBn_sound {op:BinOp} {t:TypeId} {x y v:SV} {e:Eff} {c:Cst} (h:eBn T op t x y=some (v,e,c)) (β:Nat→Loc) (xo yo:Operand) (w:World):
  e= .none∧v.ids=[]∧((do eqGuard op t xo yo (x.den β) (y.den β);binOp op t (x.den β) (y.den β)):Sem Value).run P w= .ok (v.den β) w:=by
 unfold eBn at h
 split at h
 ·rename_i a b
  have hg:=nK (P:=P) (op:=op) (t:=t) (xo:=xo) (yo:=yo) (.inr (.inr ⟨a,b,rfl,rfl⟩)) w
  split at h<;>cases h
  ·refine⟨rfl,rfl,?_⟩
   show((do eqGuard .eql t xo yo (.string a) (.string b);binOp .eql t (.string a) (.string b)):Sem Value).run P w=_
   rw[Sem.run_bind,hg]
   simp[binOp_string_eql,SV.den,SV1.den,Atom.den]
  ·refine⟨rfl,rfl,?_⟩
   show((do eqGuard .neq t xo yo (.string a) (.string b);binOp .neq t (.string a) (.string b)):Sem Value).run P w=_
   rw[Sem.run_bind,hg]
   simp[binOp_string_neq,SV.den,SV1.den,Atom.den]
 ·have hp:∀a:Option Addr,ng T t=some false→(Op.equal t (.pointer a) (.pointer none)).run P w= .ok a.isNone w:=fun a hts=>by
   obtain⟨u,hu,h1,h2⟩:=rR hT hts
   obtain⟨e0,rfl⟩:=h1 rfl
   have key:∀d,(Op.equalIn (d+1) t (.pointer a) (.pointer none)).run P w= .ok a.isNone w:=fun d=>by
    cases a<;>simp[Op.equalIn,run_underlying hu]
   exact key 9999
  split at h<;>cases h
  ·rename_i n hts hn
   obtain⟨a,hx,rfl⟩:=vV hn β
   refine⟨rfl,rfl,?_⟩
   rw[hx]
   show((do eqGuard .eql t xo yo (.pointer a) (.pointer none);binOp .eql t (.pointer a) (.pointer none)):Sem Value).run P w=_
   rw[Sem.run_bind,nK (.inl ⟨a,none,rfl,rfl⟩) w]
   show((do pure (.bool (←Op.equal t (.pointer a) (.pointer none)))):Sem Value).run P w=_
   rw[Sem.run_bind,hp a hts]
   rfl
  ·rename_i n hts hn
   obtain⟨a,hx,rfl⟩:=vV hn β
   refine⟨rfl,rfl,?_⟩
   rw[hx]
   show((do eqGuard .neq t xo yo (.pointer a) (.pointer none);binOp .neq t (.pointer a) (.pointer none)):Sem Value).run P w=_
   rw[Sem.run_bind,nK (.inl ⟨a,none,rfl,rfl⟩) w]
   show((do pure (.bool (!(←Op.equal t (.pointer a) (.pointer none))))):Sem Value).run P w=_
   rw[Sem.run_bind,hp a hts]
   rfl
 ·have hp:∀(a:Option Addr) (l c:Nat),ng T t=some true→(Op.equal t (.slice a l c) (.slice none 0 0)).run P w= .ok a.isNone w:=fun a l c hts=>by
   obtain⟨u,hu,h1,h2⟩:=rR hT hts
   obtain⟨e0,rfl⟩:=h2 rfl
   have key:∀d,(Op.equalIn (d+1) t (.slice a l c) (.slice none 0 0)).run P w= .ok a.isNone w:=fun d=>by
    cases a<;>simp[Op.equalIn,run_underlying hu]
   exact key 9999
  split at h<;>cases h
  ·rename_i n hts hn
   obtain⟨a,l,c,hx,rfl⟩:=vT hn β
   refine⟨rfl,rfl,?_⟩
   rw[hx]
   show((do eqGuard .eql t xo yo (.slice a l c) (.slice none 0 0);binOp .eql t (.slice a l c) (.slice none 0 0)):Sem Value).run P w=_
   rw[Sem.run_bind,nK (.inr (.inl ⟨a,l,c,none,0,0,rfl,rfl⟩)) w]
   show((do pure (.bool (←Op.equal t (.slice a l c) (.slice none 0 0)))):Sem Value).run P w=_
   rw[Sem.run_bind,hp a l c hts]
   rfl
  ·rename_i n hts hn
   obtain⟨a,l,c,hx,rfl⟩:=vT hn β
   refine⟨rfl,rfl,?_⟩
   rw[hx]
   show((do eqGuard .neq t xo yo (.slice a l c) (.slice none 0 0);binOp .neq t (.slice a l c) (.slice none 0 0)):Sem Value).run P w=_
   rw[Sem.run_bind,nK (.inr (.inl ⟨a,l,c,none,0,0,rfl,rfl⟩)) w]
   show((do pure (.bool (!(←Op.equal t (.slice a l c) (.slice none 0 0))))):Sem Value).run P w=_
   rw[Sem.run_bind,hp a l c hts]
   rfl
 ·cases h
end
theorem bG.mark {G:Glob} {P:Program} {N:Nat} {w0:Base G} {m:PM} {β:Nat→Loc} {w:World} (hm:bG N w0 m β w) {k:Nat} {b:Blk} (hb:m k=some b) (hown:b.own=true) (x:Addr) (hx:x.block=(β k).a):
  ∃w',(markStringish x).run P w= .ok () w'∧bG N w0 m β w':=by
 obtain⟨fr,pre,C,hh,hp,hC,h2⟩:=hm.blk k b hb
 obtain⟨hN,hfr⟩:=h2 hown
 obtain⟨lo,hi⟩:=fr
 have hsh:w.shape? x.block=some (b.ty,(pre++C).length):=by simp[World.shape?,hx,hh]
 refine⟨w.freeze { block:=x.block,off:=(pre++C).length } 1,by simp[markStringish,hsh],?_⟩
 have hheap:∀j,(w.freeze { block:=x.block,off:=(pre++C).length } 1).heap[j]? =if (β k).a=j then some (.cells (pre++C).toArray b.ty (if lo==hi then ((pre++C).length,(pre++C).length+1) else (Nat.min lo (pre++C).length,Nat.max hi ((pre++C).length+1)))) else w.heap[j]? :=by
  intro j
  unfold World.freeze
  rw[if_neg (by decide)]
  simp only[hx,Array.getElem?_modify]
  by_cases e:(β k).a=j
  ·rw[if_pos e,if_pos e,←e,hh]
   rfl
  ·rw[if_neg e,if_neg e]
 have hsize:(w.freeze { block:=x.block,off:=(pre++C).length } 1).heap.size=w.heap.size:=by
  unfold World.freeze
  rw[if_neg (by decide)]
  simp
 have hfr':FrOk (if lo==hi then ((pre++C).length,(pre++C).length+1) else (Nat.min lo (pre++C).length,Nat.max hi ((pre++C).length+1))) (pre++C).length:=by
  split
  ·exact .inr (Nat.le_refl _)
  ·rename_i hne
   rcases hfr with h | h
   ·simp only at h;subst h;simp at hne
   ·simp only at h
    exact .inr (Nat.le_min.2 ⟨h,Nat.le_refl _⟩)
 have hb':jc N w0 (w.freeze { block:=x.block,off:=(pre++C).length } 1):=by
  refine⟨?_,?_,?_,by rw[hsize];exact hm.below.size,fun j hj hnx=> ?_⟩
  ·rw[←hm.below.os];unfold World.freeze;rw[if_neg (by decide)]
  ·rw[←hm.below.tape];unfold World.freeze;rw[if_neg (by decide)]
  ·rw[←hm.below.output];unfold World.freeze;rw[if_neg (by decide)]
  ·rw[hheap,if_neg ?_]
   ·exact hm.below.block j hj hnx
   ·intro e
    rcases hN with h | h
    ·omega
    ·exact hnx (e ▸ h)
 refine⟨hb',by rw[hsize];exact hm.size,?_,hm.inj,hm.ids,hm.fix,hm.glob⟩
 intro j c hj
 by_cases e:(β k).a=(β j).a
 ·have:k=j:=hm.inj k j b c hb hj hown e
  subst this
  rw[hb] at hj
  cases hj
  exact⟨_,pre,C,by rw[hheap,if_pos rfl],hp,hC,fun _=>⟨hN,hfr'⟩⟩
 ·obtain⟨fr',pre',C',q1,q0,q2,q3⟩:=hm.blk j c hj
  exact⟨fr',pre',C',by rw[hheap,if_neg e];exact q1,q0,q2,q3⟩
section
variable {G:Glob} {P:Program} {T:Ty} (hT:T.ok P) {N:Nat} {w0:Base G}
theorem eCvS_inv {m:PM} {s t:TypeId} {x v:SV} {e:Eff} {c:Cst} (h:eCvS T m s t x=some (v,e,c)):
  ∃k o n cp bty row e0,x= .o (.a (.slc k o n cp))∧m k=some ⟨true,bty,row⟩∧lN T t=some (e0,.u8)∧Nat.beq s t=true∧v=x∧e= .none:=by
 unfold eCvS at h
 split at h
 ·split at h
  ·split at h
   ·simp only[Option.some.injEq,Prod.mk.injEq] at h
    exact⟨_,_,_,_,_,_,_,rfl,by assumption,by assumption,by assumption,h.1.symm,h.2.1.symm⟩
   ·cases h
  ·cases h
 ·cases h
include hT
theorem elemK_int {t e:TypeId} {kd:IntKind} (h:lN T t=some (e,kd)):P.underlying e=some (.int kd):=by
 unfold lN at h
 split at h<;>try cases h
 rename_i s0 z0 e0 q0 ht
 split at h<;>try cases h
 rename_i kz kd0 q1 he
 split at h<;>cases h
 exact(Ty.dD hT he).2.2.2.2.2.1.1
theorem eCvS_sound {m:PM} {β:Nat→Loc} {w:World} (hm:bG N w0 m β w) {s t:TypeId} {x v:SV} {e:Eff} {c:Cst} (h:eCvS T m s t x=some (v,e,c)):
  v=x∧e= .none∧∃w',(convert s t (x.den β)).run P w= .ok (x.den β) w'∧bG N w0 m β w':=by
 obtain⟨k,o,n,cp,bty,row,e0,rfl,hb,hek,hst,rfl,rfl⟩:=eCvS_inv h
 have hst:=Nat.eq_of_beq_eq_true hst
 subst hst
 obtain⟨ht,i,hi,h1,hz⟩:=kU hT hek
 have hu:P.underlying e0=some (.int .u8):=elemK_int hT hek
 obtain⟨w',r1,r2⟩:=bG.mark (P:=P) hm hb rfl ((β k).at o) rfl
 refine⟨rfl,rfl,w',?_,r2⟩
 show(convert s s (.slice (some ((β k).at o)) n cp)).run P w= .ok (.slice (some ((β k).at o)) n cp) w'
 simp[convert,run_underlying ht,run_underlying hu,r1]
end
def eSlG (T:Ty) (ρ:Operand→SV) (m:PM) (t:TypeId) (x:SV) (lo hi:Option Operand):Option (SV × Eff × Cst):=
 match x,lo,hi with
 | .o (.a (.slg k n)),none,some h=>match m k,jL T t,bnd ρ 0 (some h) with
  | some ⟨_,_,.gro _ _ r _⟩,some _,some H=>some (.o (.a (.slg k H.toNat)),.none,[0≤H,H≤r])
  | some ⟨_,_,.grv _ _ r _⟩,some _,some H=>some (.o (.a (.slg k H.toNat)),.none,[0≤H,H≤r])
  | _,_,_=>none
 | _,_,_=>none
def eS2A (T:Ty) (t:TypeId) (x:SV):Option (SV × Eff × Cst):=
 match pY T t with
 | some (n,_)=>match x with
  | .o (.a (.slc k o l _))=>match Nat.ble n l with
   | true=>some (.o (.a (.ptr k o)),.none,[])
   | false=>none
  | .o (.a (.sld k b o l _))=>some (.o (.a (.ptd k b o)),.none,[n≤l])
  | .o (.a (.slg k l))=>some (.o (.a (.ptd k 0 0)),.none,[n≤l])
  | _=>none
 | none=>none
def eCvN (T:Ty) (s t:TypeId) (x:SV):Option (SV × Eff × Cst):=
 match x with
 | .o (.a (.v (.slice _ 0 _)))=>if isStr T t then match lN T s with
   | some (_,.u8)=>some (.o (.a (.v (.string (textOf [])))),.none,[])
   | _=>none
  else none
 | _=>none
section
variable {G:Glob} {P:Program} {T:Ty} (hT:T.ok P) {N:Nat} {w0:Base G}
include hT
theorem eSlG_sound {ρ:Operand→SV} {ρ':Operand→Value} {m:PM} {β:Nat→Loc} {w:World} (hρ:∀x,ρ' x=(ρ x).den β) (hm:bG N w0 m β w) {t:TypeId} {x v:SV} {lo hi:Option Operand} {e:Eff} {c:Cst} (h:eSlG T ρ m t x lo hi=some (v,e,c)) (hc:Holds c):
  e= .none∧(Instr.sliceAt t (x.den β) (lo.map ρ') (hi.map ρ') none).run P w= .ok (v.den β) w∧(∀k∈v.ids,k∈x.ids):=by
 unfold eSlG at h
 split at h<;>try cases h
 rename_i k n hh
 split at h<;>cases h
 ·rename_i b ty kd xs r hb s H hmk hse hH
  obtain⟨h0,h1,_⟩:=hc
  obtain⟨e0,ht,hs⟩:=gu hT hse
  obtain⟨fr,pre,C,_,_,q2,_⟩:=hm.blk k _ hmk
  obtain⟨tail,_,_,hle,_⟩:=q2
  have hle:r≤(β k).c:=hle
  refine⟨rfl,?_,fun j hj=>hj⟩
  show(Instr.sliceAt t (.slice (some ((β k).at (0))) n (β k).c) (Option.map ρ' none) ((some hh).map ρ') none).run P w=_
  have hH':bnd ρ (n:Int) (some hh)=some H:=hH
  simp only[Instr.sliceAt,Instr.slice,Sem.run_bind,run_underlying ht,Result.andThen_ok,Sem.run_pure,mW (P:=P) (L:=0) hρ (show bnd ρ 0 none=some 0 from rfl) hH' (by omega) h0 (show H≤((β k).c:Int) by omega),hs]
  simp[SV.den,SV1.den,Atom.den,Loc.gL]
 ·rename_i b ty sv vs r hb s H hmk hse hH
  obtain⟨h0,h1,_⟩:=hc
  obtain⟨e0,ht,hs⟩:=gu hT hse
  obtain⟨fr,pre,C,_,_,q2,_⟩:=hm.blk k _ hmk
  obtain⟨tail,_,_,hle,_⟩:=q2
  have hle:r≤(β k).c:=hle
  refine⟨rfl,?_,fun j hj=>hj⟩
  show(Instr.sliceAt t (.slice (some ((β k).at (0))) n (β k).c) (Option.map ρ' none) ((some hh).map ρ') none).run P w=_
  have hH':bnd ρ (n:Int) (some hh)=some H:=hH
  simp only[Instr.sliceAt,Instr.slice,Sem.run_bind,run_underlying ht,Result.andThen_ok,Sem.run_pure,mW (P:=P) (L:=0) hρ (show bnd ρ 0 none=some 0 from rfl) hH' (by omega) h0 (show H≤((β k).c:Int) by omega),hs]
  simp[SV.den,SV1.den,Atom.den,Loc.gL]
theorem eS2A_sound {t:TypeId} {x v:SV} {e:Eff} {c:Cst} (h:eS2A T t x=some (v,e,c)) (hc:Holds c) (β:Nat→Loc) (w:World):
  e= .none∧(Instr.arrayAt t (x.den β)).run P w= .ok (v.den β) w∧(∀k∈v.ids,k∈x.ids):=by
 unfold eS2A at h
 split at h<;>try cases h
 rename_i n sz hse
 obtain⟨e0,ht,hs⟩:=mP hT hse
 have key:∀(a:Option Addr) (l c:Nat),n≤l→(Instr.arrayAt t (.slice a l c)).run P w= .ok (.pointer a) w:=fun a l c hl=>by
  simp[Instr.arrayAt,run_underlying ht,Nat.not_lt.2 hl]
 split at h
 ·rename_i k o l c
  split at h<;>cases h
  rename_i hb
  refine⟨rfl,?_,fun j hj=>hj⟩
  show(Instr.arrayAt t (.slice (some ((β k).at o)) l c)).run P w=_
  rw[key _ _ _ (Nat.le_of_ble_eq_true hb)]
  rfl
 ·rename_i k b o l c
  cases h
  refine⟨rfl,?_,fun j hj=>hj⟩
  show(Instr.arrayAt t (.slice (some ((β k).at (b+o))) l c)).run P w=_
  rw[key _ _ _ hc.1]
  rfl
 ·rename_i k l
  cases h
  refine⟨rfl,?_,fun j hj=>hj⟩
  show(Instr.arrayAt t (.slice (some ((β k).at 0)) l (β k).c)).run P w=_
  rw[key _ _ _ hc.1]
  rfl
 ·cases h
theorem eCvN_sound {s t:TypeId} {x v:SV} {e:Eff} {c:Cst} (h:eCvN T s t x=some (v,e,c)) (β:Nat→Loc) (w:World):
  e= .none∧v.ids=[]∧(convert s t (x.den β)).run P w= .ok (v.den β) w:=by
 unfold eCvN at h
 split at h<;>try cases h
 rename_i a cp
 split at h<;>try cases h
 rename_i hstr
 split at h<;>cases h
 rename_i e0 hek
 obtain⟨ht,i,hi,h1,hz⟩:=kU hT hek
 have he:P.underlying e0=some (.int .u8):=elemK_int hT hek
 refine⟨rfl,rfl,?_⟩
 show(convert s t (.slice a 0 cp)).run P w=_
 rw[run_convert_bytes_string w s t e0 _ _ _ ht he (oK hT hstr)]
 cases a with
 | none=>simp[Conv.bytesToString,SV.den,SV1.den,Atom.den,textOf]
 | some x=>
  have h0:(loadCells x 0).run P w= .ok (([]:List Int).map (Value.int .u8)).toArray w:=by
   have:=run_loadCells_list (P:=P) w x [] (fun j v hv=>by simp at hv)
   simpa using this
  rw[run_bytesToString w x 0 cp [] h0]
  rfl
end
def kZ:List Atom→List IntKind
 | .v (.int k _)::r=>k::kZ r
 | _=>[]
def eF:List IntKind→List Int→List Value
 | k::ks,x::xs=> .int k x::eF ks xs
 | _,_=>[]
theorem iq:∀(ks:List IntKind) (xs:List Int),xs.length=ks.length→(eF ks xs).length=ks.length
 | [],[],_=>rfl
 | k::ks,x::xs,h=>by simp only[eF,List.length_cons];rw[iq ks xs (by simpa using h)]
 | [],x::xs,h=>by cases h
 | k::ks,[],h=>by cases h
theorem kV:∀(k1:List IntKind) (x1:List Int) (k2:List IntKind) (x2:List Int),x1.length=k1.length→eF (k1++k2) (x1++x2)=eF k1 x1++eF k2 x2
 | [],[],_,_,_=>rfl
 | k::ks,x::xs,k2,x2,h=>by simp only[List.cons_append,eF];rw[kV ks xs k2 x2 (by simpa using h)]
 | [],x::xs,_,_,h=>by cases h
 | k::ks,[],_,_,h=>by cases h
theorem tF {a b c d:List Int} (h:a.length=b.length):(a++c==b++d)=((a==b)&&(c==d)):=by
 rw[Bool.eq_iff_iff]
 simp only[beq_iff_eq,Bool.and_eq_true]
 exact⟨fun e=>List.append_inj e h,fun⟨e1,e2⟩=>by rw[e1,e2]⟩
def FlatD (P:Program) (d:Nat) (t:TypeId) (ks:List IntKind):Prop:=
 ∀(w:World) (xs ys:List Int) (p q p' q':List Value),xs.length=ks.length→ys.length=ks.length→p.length=p'.length→
  ∃a b,(part t (p++eF ks xs++q).toArray p.length).run P w= .ok a w∧(part t (p'++eF ks ys++q').toArray p.length).run P w= .ok b w∧(Op.equalIn d t a b).run P w= .ok (xs==ys) w
def FlatEq (P:Program) (t:TypeId) (ks:List IntKind):Prop:=
 P.eqGuardType P.depth t=false∧∀(w:World) (xs ys:List Int),xs.length=ks.length→ys.length=ks.length→(Op.equalIn 10000 t (.agg (eF ks xs).toArray) (.agg (eF ks ys).toArray)).run P w= .ok (xs==ys) w
def qB (P:Program) (F:TypeId→Option (List IntKind)):Nat→List Field→Option (List IntKind)
 | _,[]=>some []
 | o,f::fs=>if f.name≠ "_" ∧f.offset=o then match F f.type with
  | some ks=>match qB P F (o+ks.length) fs with
   | some r=>some (ks++r)
   | none=>none
  | none=>none
  else none
def kF (P:Program):Nat→TypeId→Option (List IntKind)
 | 0,_=>none
 | d+1,t=>match P.underlying t with
  | some (.int k)=>if P.cellsOf t=1 then some [k] else none
  | some (.array n e)=>match kF P d e with
   | some ks=>if ks.length=P.cellsOf e∧n*ks.length=P.cellsOf t then some (List.replicate n ks).flatten else none
   | none=>none
  | some (.struct fs)=>if P.stoodInHeld t=false then match qB P (kF P d) 0 fs.toList with
   | some ks=>if ks.length=P.cellsOf t then some ks else none
   | none=>none
   else none
  | _=>none
theorem vZ {P:Program} {t:TypeId} {d:TypeDesc} (h:P.underlying t=some d):∃i,P.info? t=some i:=info_of_underlying h
theorem pJ {P:Program} {t:TypeId} {d:TypeDesc} (hu:P.underlying t=some d) (hd:(∃n e,d= .array n e)∨∃fs,d= .struct fs) (w:World) (p c q:List Value) (hc:c.length=P.cellsOf t):
  (part t (p++c++q).toArray p.length).run P w= .ok (.agg c.toArray) w:=by
 obtain⟨i,hi⟩:=vZ hu
 have he:(p++c++q).toArray.extract p.length (p.length+P.cellsOf t)=c.toArray:=by
  rw[←hc]
  apply Array.ext'
  rw[Array.toList_extract]
  simp[List.extract]
 rcases hd with⟨n,e,rfl⟩ | ⟨fs,rfl⟩<;>simp only[part,isAgg,Sem.run_bind,run_underlying hu,Result.andThen_ok,Sem.run_pure,if_true,run_sizeOf w hi,he]
theorem flat_items {P:Program} {e:TypeId} {d:Nat} {ks:List IntKind} (he:FlatD P d e ks) (hk:ks.length=P.cellsOf e) (w:World):∀(n s:Nat) (p p' q q':List Value) (xs ys:List Int),
  xs.length=n*ks.length→ys.length=n*ks.length→p.length=s*ks.length→p'.length=s*ks.length→
  (Op.eqItems d e (P.cellsOf e) (p++eF (List.replicate n ks).flatten xs++q).toArray (p'++eF (List.replicate n ks).flatten ys++q').toArray (List.range' s n)).run P w= .ok (xs==ys) w
 | 0,s,p,p',q,q',xs,ys,hx,hy,hp,hp'=>by
  have e1:xs=[]:=List.eq_nil_of_length_eq_zero (by omega)
  have e2:ys=[]:=List.eq_nil_of_length_eq_zero (by omega)
  subst e1 e2
  simp[Op.eqItems]
 | n+1,s,p,p',q,q',xs,ys,hx,hy,hp,hp'=>by
  have hm:(n+1)*ks.length=ks.length+n*ks.length:=by rw[Nat.add_mul,Nat.one_mul,Nat.add_comm]
  have hx1:(xs.take ks.length).length=ks.length:=by rw[List.length_take];omega
  have hy1:(ys.take ks.length).length=ks.length:=by rw[List.length_take];omega
  have hx2:(xs.drop ks.length).length=n*ks.length:=by rw[List.length_drop];omega
  have hy2:(ys.drop ks.length).length=n*ks.length:=by rw[List.length_drop];omega
  have ex:eF (List.replicate (n+1) ks).flatten xs=eF ks (xs.take ks.length)++eF (List.replicate n ks).flatten (xs.drop ks.length):=by
   rw[←kV _ _ _ _ hx1,List.take_append_drop,List.replicate_succ,List.flatten_cons]
  have ey:eF (List.replicate (n+1) ks).flatten ys=eF ks (ys.take ks.length)++eF (List.replicate n ks).flatten (ys.drop ks.length):=by
   rw[←kV _ _ _ _ hy1,List.take_append_drop,List.replicate_succ,List.flatten_cons]
  obtain⟨a,b,h1,h2,h3⟩:=he w (xs.take ks.length) (ys.take ks.length) p (eF (List.replicate n ks).flatten (xs.drop ks.length)++q) p' (eF (List.replicate n ks).flatten (ys.drop ks.length)++q') hx1 hy1 (by omega)
  have ih:=flat_items he hk w n (s+1) (p++eF ks (xs.take ks.length)) (p'++eF ks (ys.take ks.length)) q q' _ _ hx2 hy2
   (by rw[List.length_append,iq _ _ hx1,hp,Nat.add_mul,Nat.one_mul]) (by rw[List.length_append,iq _ _ hy1,hp',Nat.add_mul,Nat.one_mul])
  have hp2:p.length=s*P.cellsOf e:=by rw[hp,hk]
  rw[hp2] at h1 h2
  simp only[List.append_assoc] at h1 h2 ih
  rw[ex,ey]
  simp only[List.append_assoc,List.range'_succ,Op.eqItems,Sem.run_bind,h1,h2,h3,Result.andThen_ok]
  have hb:(xs==ys)=((xs.take ks.length==ys.take ks.length)&&(xs.drop ks.length==ys.drop ks.length)):=by
   rw[←tF (by rw[hx1,hy1]),List.take_append_drop,List.take_append_drop]
  rw[hb]
  cases hq:(xs.take ks.length==ys.take ks.length)
  ·simp
  ·simpa using ih
theorem wh {P:Program} {d m:Nat} (IH:∀t ks,kF P m t=some ks→FlatD P d t ks) (w:World):∀(fs:List Field) (o:Nat) (p p' q q':List Value) (ks:List IntKind) (xs ys:List Int),qB P (kF P m) o fs=some ks→
  xs.length=ks.length→ys.length=ks.length→p.length=o→p'.length=o→
  (Op.eqFields d (p++eF ks xs++q).toArray (p'++eF ks ys++q').toArray fs).run P w= .ok (xs==ys) w
 | [],o,p,p',q,q',ks,xs,ys,h,hx,hy,hp,hp'=>by
  simp only[qB] at h
  cases h
  have e1:xs=[]:=List.eq_nil_of_length_eq_zero hx
  have e2:ys=[]:=List.eq_nil_of_length_eq_zero hy
  subst e1 e2
  simp[Op.eqFields]
 | f::fs,o,p,p',q,q',ks,xs,ys,h,hx,hy,hp,hp'=>by
  unfold qB at h
  split at h
  ·rename_i hn
   obtain⟨hn,ho⟩:=hn
   split at h
   ·rename_i k1 hk1
    split at h<;>cases h
    rename_i k2 hk2
    rw[List.length_append] at hx hy
    have hx1:(xs.take k1.length).length=k1.length:=by rw[List.length_take];omega
    have hy1:(ys.take k1.length).length=k1.length:=by rw[List.length_take];omega
    have hx2:(xs.drop k1.length).length=k2.length:=by rw[List.length_drop];omega
    have hy2:(ys.drop k1.length).length=k2.length:=by rw[List.length_drop];omega
    have ex:eF (k1++k2) xs=eF k1 (xs.take k1.length)++eF k2 (xs.drop k1.length):=by
     rw[←kV _ _ _ _ hx1,List.take_append_drop]
    have ey:eF (k1++k2) ys=eF k1 (ys.take k1.length)++eF k2 (ys.drop k1.length):=by
     rw[←kV _ _ _ _ hy1,List.take_append_drop]
    obtain⟨a,b,h1,h2,h3⟩:=IH _ _ hk1 w (xs.take k1.length) (ys.take k1.length) p (eF k2 (xs.drop k1.length)++q) p' (eF k2 (ys.drop k1.length)++q') hx1 hy1 (by omega)
    have ih:=wh IH w fs (o+k1.length) (p++eF k1 (xs.take k1.length)) (p'++eF k1 (ys.take k1.length)) q q' k2 _ _ hk2 hx2 hy2
     (by rw[List.length_append,iq _ _ hx1,hp]) (by rw[List.length_append,iq _ _ hy1,hp'])
    rw[hp,←ho] at h1 h2
    simp only[List.append_assoc] at h1 h2 ih
    rw[ex,ey]
    simp only[List.append_assoc,Op.eqFields,ne_eq,hn,not_false_eq_true,if_true,Sem.run_bind,h1,h2,h3,Result.andThen_ok]
    have hb:(xs==ys)=((xs.take k1.length==ys.take k1.length)&&(xs.drop k1.length==ys.drop k1.length)):=by
     rw[←tF (by rw[hx1,hy1]),List.take_append_drop,List.take_append_drop]
    rw[hb]
    cases hq:(xs.take k1.length==ys.take k1.length)
    ·simp
    ·simpa using ih
   ·cases h
  ·cases h
theorem flat_ok {P:Program} (D:Nat):∀(m:Nat) (t:TypeId) (ks:List IntKind),kF P m t=some ks→FlatD P (D+m) t ks
 | 0,t,ks,h=>by cases h
 | m+1,t,ks,h=>by
  unfold kF at h
  intro w xs ys p q p' q' hx hy hp
  split at h<;>try cases h
  ·rename_i k hu
   split at h<;>cases h
   match xs,ys,hx,hy with
   | [x],[y],_,_=>
    refine⟨.int k x,.int k y,?_,?_,?_⟩
    ·simp[part,isAgg,run_underlying hu,eF]
    ·simp[part,isAgg,run_underlying hu,eF,hp]
    ·rw[show D+(m+1)=(D+m)+1 from rfl,run_equalIn_int w (D+m) t k k x y hu]
     simp
  ·rename_i n e hu
   split at h
   ·rename_i k1 hk1
    split at h<;>cases h
    rename_i hl
    have hlen:(List.replicate n k1).flatten.length=n*k1.length:=by simp[List.length_flatten]
    rw[hlen] at hx hy
    obtain⟨ie,hie⟩:∃i,P.info? e=some i:=by
     cases m with
     | zero=>cases hk1
     | succ m'=>
      unfold kF at hk1
      cases hue:P.underlying e with
      | none=>rw[hue] at hk1;cases hk1
      | some _=>exact vZ hue
    refine⟨_,_,pJ hu (.inl ⟨n,e,rfl⟩) w p _ q (by rw[iq _ _ (by rw[hx,hlen]),hlen,hl.2]),by rw[hp];exact pJ hu (.inl ⟨n,e,rfl⟩) w p' _ q' (by rw[iq _ _ (by rw[hy,hlen]),hlen,hl.2]),?_⟩
    rw[show D+(m+1)=(D+m)+1 from rfl,run_equalIn_array w (D+m) _ _ hu hie,List.range_eq_range']
    have:=flat_items (flat_ok D m e k1 hk1) hl.1 w n 0 [] [] [] [] xs ys hx hy (by simp) (by simp)
    simpa using this
   ·cases h
  ·rename_i fs hu
   split at h
   ·rename_i hst
    split at h
    ·rename_i k1 hk1
     split at h<;>cases h
     rename_i hl
     have hfs:P.fieldsOf t=fs:=by simp[Program.fieldsOf,hu]
     refine⟨_,_,pJ hu (.inr ⟨fs,rfl⟩) w p _ q (by rw[iq _ _ hx,hl]),by rw[hp];exact pJ hu (.inr ⟨fs,rfl⟩) w p' _ q' (by rw[iq _ _ hy,hl]),?_⟩
     rw[show D+(m+1)=(D+m)+1 from rfl,run_equalIn_struct w (D+m) t _ _ (by rw[hfs];exact hu) hst,hfs]
     have:=wh (fun t ks h=>flat_ok D m t ks h) w fs.toList 0 [] [] [] [] ks xs ys hk1 hx hy rfl rfl
     simpa using this
    ·cases h
   ·cases h
theorem FlatEq.of {P:Program} {t:TypeId} {ks:List IntKind} {fs:Array Field} (hu:P.underlying t=some (.struct fs)) (hg:P.eqGuardType P.depth t=false) (hk:kF P 5 t=some ks) (hl:ks.length=P.cellsOf t):FlatEq P t ks:=by
 refine⟨hg,fun w xs ys hx hy=> ?_⟩
 obtain⟨a,b,h1,h2,h3⟩:=flat_ok 9995 5 t ks hk w xs ys [] [] [] [] hx hy rfl
 have e1:=pJ hu (.inr ⟨fs,rfl⟩) w [] (eF ks xs) [] (by rw[iq _ _ hx,hl])
 have e2:=pJ hu (.inr ⟨fs,rfl⟩) w [] (eF ks ys) [] (by rw[iq _ _ hy,hl])
 rw[e1] at h1
 rw[e2] at h2
 cases h1
 cases h2
 exact h3
def l5:List Atom→List Int
 | .v (.int _ x)::r=>x::l5 r
 | _=>[]
theorem wm:∀{xs ys:List Atom} {r:Bool},jW xs ys=some r→(∀β,xs.map (Atom.den β)=eF (kZ xs) (l5 xs))∧(∀β,ys.map (Atom.den β)=eF (kZ xs) (l5 ys))∧(l5 xs).length=(kZ xs).length∧(l5 ys).length=(kZ xs).length∧r=(l5 xs==l5 ys)
 | [],[],r,h=>by cases h;exact⟨fun _=>rfl,fun _=>rfl,rfl,rfl,rfl⟩
 | [],_::_,_,h=>by simp[jW] at h
 | .v (.int k a)::xs,[],_,h=>by simp[jW] at h
 | x::xs,[],_,h=>by cases x<;>simp[jW] at h
 | x::xs,y::ys,r,h=>by
  unfold jW at h
  split at h<;>try cases h
  ·rename_i e1 e2;cases e1
  ·rename_i e1 e2
   cases e1
   cases e2
   split at h<;>try cases h
   rename_i hk
   subst hk
   split at h<;>try cases h
   rename_i r' hr
   obtain⟨h1,h2,h3,h4,h5⟩:=wm hr
   refine⟨fun β=>by simp only[List.map_cons,kZ,l5,eF,Atom.den,h1 β],fun β=>by simp only[List.map_cons,kZ,l5,eF,Atom.den,h2 β],by simp only[kZ,l5,List.length_cons,h3],by simp only[kZ,l5,List.length_cons,h4],?_⟩
   rw[h5]
   rfl
def eBnS (P:Program) (T:Ty) (op:BinOp) (t:TypeId) (x y:SV):Option (SV × Eff × Cst):=
 match x,y with
 | .o (.g xs),.o (.g ys)=>match T.get t with
  | some ⟨_,_,.str _,_⟩=>match jW xs ys,op with
   | some r,.eql=>some (.o (.a (fH r)),.none,[FlatEq P t (kZ xs)])
   | some r,.neq=>some (.o (.a (fH (!r))),.none,[FlatEq P t (kZ xs)])
   | _,_=>none
  | _=>none
 | _,_=>none
theorem eBnS_sound {P:Program} {T:Ty} {op:BinOp} {t:TypeId} {x y v:SV} {e:Eff} {c:Cst} (h:eBnS P T op t x y=some (v,e,c)) (hc:Holds c) (β:Nat→Loc) (xo yo:Operand) (w:World):
  e= .none∧v.ids=[]∧((do eqGuard op t xo yo (x.den β) (y.den β);binOp op t (x.den β) (y.den β)):Sem Value).run P w= .ok (v.den β) w:=by
 unfold eBnS at h
 split at h<;>try cases h
 rename_i xs ys
 split at h<;>try cases h
 split at h<;>cases h
 all_goals
  rename_i r hr
  obtain⟨h1,h2,h3,h4,h5⟩:=wm hr
  have hq:=hc.1.2 w _ _ h3 h4
  rw[←h1 β,←h2 β,←h5] at hq
  refine⟨rfl,rfl,?_⟩
 ·simp only[SV.den,SV1.den,Atom.den,Sem.run_bind,run_eqGuard_agg w _ t xo yo _ _ hc.1.1,Result.andThen_ok,run_eql_struct,hq]
 ·simp only[SV.den,SV1.den,Atom.den,Sem.run_bind,run_eqGuard_agg w _ t xo yo _ _ hc.1.1,Result.andThen_ok,run_neq_struct,hq]
def eRem (d:Bool) (op:BinOp) (x y:SV):Option (SV × Eff × Cst):=
 match d,op,x,y with
 | true,.rem,.o (.a (.v (.int k a))),.o (.a (.v (.int kb b)))=>if k=kb then some (.o (.a (aG k (a.tmod b))),.none,[b≠0]) else none
 | _,_,_,_=>none
theorem eRem_sound {P:Program} {d:Bool} {op:BinOp} {t:TypeId} {x y v:SV} {e:Eff} {c:Cst} (h:eRem d op x y=some (v,e,c)) (hc:Holds c) (β:Nat→Loc) (xo yo:Operand) (w:World):
  e= .none∧v.ids=[]∧((do eqGuard op t xo yo (x.den β) (y.den β);binOp op t (x.den β) (y.den β)):Sem Value).run P w= .ok (v.den β) w:=by
 unfold eRem at h
 split at h<;>try cases h
 rename_i k a kb b
 split at h<;>cases h
 rename_i hk
 subst hk
 have hb:b≠0:=hc.1
 obtain⟨h1,h2⟩:=eInt_sound (P:=P) (show eInt .rem k a k b=some (aG k (a.tmod b)) by simp[eInt,hb]) β t w
 refine⟨rfl,rfl,?_⟩
 simp only[SV.den,SV1.den,Atom.den,eqGuard_at_int,pure_bind]
 exact h1
def ptrOf:SV→Option (Nat × Nat × Nat)
 | .o (.a (.ptr k o))=>some (k,0,o)
 | .o (.a (.ptd k b o))=>some (k,b,o)
 | _=>none
theorem rT {x:SV} {k b o:Nat} (h:ptrOf x=some (k,b,o)) (β:Nat→Loc):x.den β= .pointer (some ((β k).at (b+o)))∧k∈x.ids:=by
 unfold ptrOf at h
 split at h<;>cases h
 ·exact⟨by simp[SV.den,SV1.den,Atom.den],by simp[SV.ids,SV1.ids,Atom.ids]⟩
 ·exact⟨rfl,by simp[SV.ids,SV1.ids,Atom.ids]⟩
def Row.vals:Row→Option (List Value)
 | .grv _ vs _ _=>some vs
 | .prv vs=>some vs
 | _=>none
theorem Row.vals_spec {β:Nat→Loc} {n:Nat} {r:Row} {vs C:List Value} (h:r.vals=some vs) (hC:r.is β n C):∃tail,C=vs++tail:=by
 cases r<;>simp only[Row.vals] at h<;>cases h
 ·obtain⟨tail,h1,_⟩:=hC
  exact⟨tail,h1⟩
 ·exact hC
def bn (vs:List Value) (o:Nat):Nat→List Atom
 | 0=>[]
 | n+1=> .v (vs.getD o undef)::bn vs (o+1) n
theorem takeV_ids (vs:List Value):∀(n o:Nat),bL (bn vs o n)=[]
 | 0,_=>rfl
 | n+1,o=>by simp only[bn,bL,Atom.ids,takeV_ids vs n,List.append_nil]
theorem takeV_den (vs:List Value) (β:Nat→Loc):∀(n o:Nat),o+n≤vs.length→(bn vs o n).map (Atom.den β)=(vs.drop o).take n
 | 0,_,_=>by simp[bn]
 | n+1,o,h=>by
  rw[List.drop_eq_getElem_cons (by omega),List.take_succ_cons,bn,List.map_cons,takeV_den vs β n (o+1) (by omega)]
  congr 1
  simp[Atom.den,List.getD,List.getElem?_eq_getElem (show o<vs.length by omega)]
def eLdV (T:Ty) (m:PM) (t:TypeId) (x:SV):Option (SV × Eff × Cst):=
 match ptrOf x with
 | some (k,b,o)=>match T.get t,m k with
  | some i,some bl=>match bl.row.vals with
   | some vs=>match i.agg with
    | true=>some (.o (.g (bn vs (b+o) i.size)),.none,[b+o+i.size≤vs.length])
    | false=>some (.o (.a (.v (vs.getD (b+o) undef))),.none,[b+o<vs.length])
   | none=>none
  | _,_=>none
 | none=>none
def putV (o:Nat) (ys vs:List Value):List Value:=vs.take o++(ys++vs.drop (o+ys.length))
def litV (cs:List Atom):List Value:=cs.map (Atom.den loc0)
def eStV (T:Ty) (m:PM) (t:TypeId) (x y:SV):Option (SV × Eff × Cst):=
 match ptrOf x,y with
 | some (k,b,o),.o y=>match T.get t,m k with
  | some i,some ⟨true,_,.grv s vs lo hi⟩=>if Nat.beq y.cells.length i.size&&(jU y.cells&&(bL y.cells).isEmpty) then
    some (eu,.upd k (.grv s (putV (b+o) (litV y.cells) vs) lo hi),[b+o+i.size≤vs.length])
   else none
  | _,_=>none
 | _,_=>none
def eFAd (T:Ty) (t:TypeId) (x:SV) (f:Nat):Option (SV × Eff × Cst):=
 match x with
 | .o (.a (.ptd k b o))=>match T.get t with
  | some ⟨_,_,.str fs,_⟩=>match fs[f]? with
   | some (off,ft)=>match T.get ft with
    | some ⟨_+1,_,_,_⟩=>some (.o (.a (.ptd k b (o+off))),.none,[])
    | _=>none
   | none=>none
  | _=>none
 | _=>none
def eIAd (T:Ty) (t:TypeId) (x ix:SV):Option (SV × Eff × Cst):=
 match x,ix with
 | .o (.a (.ptd k b o)),.o (.a (.v (.int _ i)))=>match pY T t with
  | some (n,s)=>some (.o (.a (.ptd k b (aN o i s))),.none,[0≤i,i<n])
  | none=>none
 | _,_=>none
def elemV (T:Ty) (t:TypeId):Option (TypeId × Nat):=
 match T.get t with
 | some ⟨_,_,.plain (.slice e),_⟩=>match T.get e with
  | some i=>if i.agg&&Nat.beq i.zero.length i.size then some (e,i.size) else none
  | none=>none
 | _=>none
def srcV (m:PM) (s:Nat) (x:SV):Option (List Value × Nat × Cst):=
 match ig x with
 | some (k,b,o,n)=>match m k with
  | some bl=>match bl.row with
   | .lit cs=>if (bL cs).isEmpty then some (((litV cs).drop (b+o)).take (n*s),n,[b+o+n*s≤cs.length]) else none
   | .grv _ vs _ _=>some ((vs.drop (b+o)).take (n*s),n,[b+o+n*s≤vs.length])
   | .prv vs=>some ((vs.drop (b+o)).take (n*s),n,[b+o+n*s≤vs.length])
   | _=>none
  | none=>none
 | none=>match x with
  | .o (.a (.v (.slice _ 0 _)))=>some ([],0,[])
  | _=>none
def growV (P:Program) (e:TypeId) (s:Nat) (zs:List Value) (n:Nat) (c:Cst):Option (SV × Eff × Cst):=
 some (.o (.a (.slg 0 n)),.new ⟨true,e,.grv s zs n none⟩,c++[Room P e n])
def eAppV (P:Program) (T:Ty) (m:PM) (d:Bool) (t xt:TypeId) (s x:SV):Option (SV × Eff × Cst):=
 match elemV T t,notInt T xt with
 | some (e,sz),true=>match srcV m sz x with
  | some (ys,nx,c1)=>match s with
   | .o (.a (.slg k n))=>match m k with
    | some ⟨true,_,.grv s' vs lo none⟩=>if s'=sz then some (.o (.a (.slg k (n+nx))),.upd k (.grv sz (vs++ys) lo none),c1++[n*sz=vs.length,n+nx≤lo,∀v∈ys,v.oneCell'=true]) else none
    | some ⟨_,_,.grv s' vs lo (some h)⟩=>if s'=sz then growV P e sz (vs++ys) (n+nx) (c1++[n*sz=vs.length,h≤n+nx]) else none
    | _=>none
   | .o (.a (.slc k o 0 c))=>match d with
    | true=>some (.o (.a (.slc k o 0 c)),.none,c1++[nx=0])
    | false=>growV P e sz ys nx (c1++[c<nx])
   | .o (.a (.slc k o (n+1) c))=>match srcV m sz (.o (.a (.slc k o (n+1) c))) with
    | some (zs,_,c2)=>growV P e sz (zs++ys) (n+1+nx) (c1++(c2++[c<n+1+nx]))
    | none=>none
   | .o (.a (.v (.slice p 0 0)))=>match d with
    | true=>some (.o (.a (.v (.slice p 0 0))),.none,c1++[nx=0])
    | false=>growV P e sz ys nx (c1++[0<nx])
   | _=>none
  | none=>none
 | _,_=>none
section
variable {G:Glob} {P:Program} {T:Ty} (hT:T.ok P) {N:Nat} {w0:Base G}
include hT
theorem eLdV_sound {m:PM} {β:Nat→Loc} {w:World} (hm:bG N w0 m β w) {t:TypeId} {x v:SV} {e:Eff} {c:Cst} (h:eLdV T m t x=some (v,e,c)) (hc:Holds c):
  e= .none∧(Instr.loadAt t (x.den β)).run P w= .ok (v.den β) w∧v.ids=[]:=by
 unfold eLdV at h
 split at h<;>try cases h
 rename_i k b o hp
 obtain⟨hden,_⟩:=rT hp β
 rw[hden]
 split at h<;>try cases h
 rename_i i bl hi hb
 split at h<;>try cases h
 rename_i vs hv
 obtain⟨fr,kD,C,hh,hp0,hC,_⟩:=hm.blk k _ hb
 obtain⟨tail,hCe⟩:=Row.vals_spec hv hC
 have hag:=mV hT hi w
 have hsz:=bS hT hi w
 split at h
 ·rename_i ha
  cases h
  obtain⟨hle,_⟩:=hc
  rw[ha] at hag
  refine⟨rfl,?_,takeV_ids _ _ _⟩
  simp only[SV.den,SV1.den,Atom.den,Instr.loadAt,Instr.sureAddr,Sem.run_bind,Sem.run_pure,Result.andThen_ok,loadVar,hag,if_true,hsz]
  rw[pR hh hp0 (by rw[hCe];simp;omega),takeV_den vs β _ _ hle]
  rw[hCe,List.drop_append_of_le_length (by omega),List.take_append_of_le_length (by rw[List.length_drop];omega)]
  rfl
 ·rename_i ha
  cases h
  obtain⟨hle,_⟩:=hc
  rw[ha] at hag
  refine⟨rfl,?_,rfl⟩
  have:w.cell? ((β k).at (b+o))=some (vs.getD (b+o) undef):=by
   rw[cell_at hh hp0,hCe,List.getElem?_append_left hle]
   simp[List.getD,List.getElem?_eq_getElem hle]
  simp[SV.den,SV1.den,Atom.den,Instr.loadAt,Instr.sureAddr,Sem.run_bind,loadVar,hag,this]
omit hT in
theorem uo {cs:List Atom} (h:bL cs=[]) (β:Nat→Loc):cs.map (Atom.den β)=litV cs:=mO cs fun k hk=>by rw[h] at hk;cases hk
omit hT in
theorem litV_one:∀{cs:List Atom},jU cs=true→bL cs=[]→∀v∈litV cs,v.oneCell'=true
 | [],_,_,v,hv=>by cases hv
 | c::r,h1,h2,v,hv=>by
  simp only[jU,Bool.and_eq_true] at h1
  simp only[bL,List.append_eq_nil_iff] at h2
  rcases List.mem_cons.1 hv with rfl | hv
  ·cases c<;>first | exact h1.1 | rfl
  ·exact litV_one h1.2 h2.2 v hv
theorem eStV_sound {m:PM} {β:Nat→Loc} {w:World} (hm:bG N w0 m β w) (fresh:Nat) {t:TypeId} {x y v:SV} {e:Eff} {c:Cst} (h:eStV T m t x y=some (v,e,c)) (hc:Holds c):
  ∃w',v=eu∧(Instr.storeAt t (x.den β) (y.den β)).run P w= .ok () w'∧bG N w0 (e.app m fresh) β w':=by
 unfold eStV at h
 split at h<;>try cases h
 rename_i k b o y hp
 obtain⟨hden,_⟩:=rT hp β
 rw[hden]
 split at h<;>try cases h
 rename_i i bty s vs lo hi hti hb
 split at h<;>cases h
 rename_i hcond
 obtain⟨hle,_⟩:=hc
 simp only[Bool.and_eq_true,List.isEmpty_iff] at hcond
 obtain⟨hl,hone,hids⟩:=hcond
 have hl:=Nat.eq_of_beq_eq_true hl
 have hll:(litV y.cells).length=i.size:=by rw[←hl];simp[litV]
 have hcells:(y.den β).cells=(litV y.cells).toArray:=by
  rw[qE y hone β,uo hids]
 obtain⟨fr,kD,C,hh,hp0,⟨tail,hCe,hCl,hlo,hhi⟩,_⟩:=hm.blk k _ hb
 obtain⟨w',r1,r2⟩:=hm.write (P:=P) hb rfl hh hp0 (litV y.cells) (b+o) (by rw[hCe,hll];simp;omega) (litV_one hone hids) (r:= .grv s (putV (b+o) (litV y.cells) vs) lo hi) (by
  refine⟨tail,?_,?_,hlo,hhi⟩
  ·unfold putV
   rw[hCe,hll,List.take_append_of_le_length (by omega),List.drop_append_of_le_length (by omega)]
   simp[List.append_assoc]
  ·rw[←hCl,hCe]
   simp only[List.length_append,List.length_take,List.length_drop,hll]
   omega) (by intro j hj;cases hj)
 refine⟨w',rfl,?_,r2⟩
 have hsz:=bS hT hti w
 show(Instr.storeAt t (.pointer (some ((β k).at (b+o)))) (y.den β)).run P w=_
 simp only[Instr.storeAt,Instr.sureAddr,Sem.run_bind,Sem.run_pure,Result.andThen_ok,storeVar,hsz,hcells]
 simp[hll,r1]
theorem uG {t e:TypeId} {s:Nat} (h:elemV T t=some (e,s)):P.underlying t=some (.slice e)∧∃j z,P.info? e=some j∧j.size=s∧j.zero=some z∧z.cells.size=s:=by
 unfold elemV at h
 split at h<;>try cases h
 rename_i s0 z0 e0 q0 ht
 split at h<;>try cases h
 rename_i i he
 split at h<;>cases h
 rename_i hag
 simp only[Bool.and_eq_true] at hag
 have hl:=Nat.eq_of_beq_eq_true hag.2
 refine⟨(Ty.dD hT ht).2.2.2.2.2.1.1,?_⟩
 have hok:=Ty.dD hT he
 have h1:=hok.1
 have h2:=hok.2.1
 cases hq:P.info? e with
 | none=>rw[hq] at h1;cases h1
 | some j=>
  rw[hq] at h1 h2
  have h1:j.size=i.size:=by simpa using h1
  rw[hag.1] at h2
  simp only[Option.bind_some,if_true] at h2
  exact⟨j,_,rfl,h1,h2,by simp[Value.cells,hl]⟩
end
theorem run_growS {P:Program} (w:World) {t xt ty e:TypeId} {i:TypeInfo} {z:Value} {u:TypeDesc} {s:Nat} (ht:P.underlying t=some (.slice e)) (hx:P.underlying xt=some u) (hu:(∃e',u= .slice e')∨u= .string) (hi:P.info? e=some i) (hz:i.zero=some z) (h1:i.size=s)
  {base:Option Addr} {sLen sCap n:Nat} {x:Value} {olds news:Array Value} (hl:∀w,(Builtin.lenOf x).run P w= .ok n w)
  (ho:(Builtin.firstCells s sLen (.slice base sLen sCap)).run P w.drew= .ok olds w.drew) (hn:(Builtin.firstCells s n x).run P w.drew= .ok news w.drew)
  (hg:sCap<sLen+n) (h63:((sLen+n:Nat):Int)≤9223372036854775807) (hfit:Builtin.nextslicecap (sLen+n) sCap*i.bytes≤281474976710656):
  (Builtin.append_ #[t,xt] ty #[.slice base sLen sCap,x]).run P w= .ok (.slice (some ⟨w.heap.size,0,none⟩) (sLen+n) (grownCap w (sLen+n) sCap e))
   (w.drew.alloc (.cells (olds++news++Builtin.zeroCells z.cells (grownCap w (sLen+n) sCap e-(sLen+n))) e)):=by
 have hn':¬(sLen+n≤sCap):=by omega
 have h63':¬(9223372036854775807<((sLen:Int)+(n:Int))):=by omega
 have h48':¬(281474976710656<Builtin.nextslicecap (sLen+n) sCap*i.bytes):=by omega
 rcases hu with⟨e',rfl⟩ | rfl<;>simp[Builtin.append_,run_underlying ht,run_underlying hx,sizeOf,typeInfo,zeroValue,hi,hz,h1,hl,hn',h63',h48',Question.forced,ho,hn,newRow,grownCap]
theorem run_fitsS {P:Program} (w w':World) {t xt ty e:TypeId} {i:TypeInfo} {u:TypeDesc} {s:Nat} (ht:P.underlying t=some (.slice e)) (hx:P.underlying xt=some u) (hu:(∃e',u= .slice e')∨u= .string) (hi:P.info? e=some i) (h1:i.size=s)
  {a:Addr} {sLen sCap n:Nat} {x:Value} {news:List Value} (hl:∀w,(Builtin.lenOf x).run P w= .ok n w) (hn:(Builtin.firstCells s n x).run P w= .ok news.toArray w)
  (hg:sLen+n≤sCap) (hst:(storeCells (a.add (sLen*s)) news 0).run P w= .ok () w'):
  (Builtin.append_ #[t,xt] ty #[.slice (some a) sLen sCap,x]).run P w= .ok (.slice (some a) (sLen+n) sCap) w':=by
 rcases hu with⟨e',rfl⟩ | rfl<;>simp[Builtin.append_,run_underlying ht,run_underlying hx,sizeOf,typeInfo,hi,h1,hl,hg,hn,hst]
theorem run_fits0S {P:Program} (w:World) {t xt ty e:TypeId} {i:TypeInfo} {u:TypeDesc} {s c:Nat} (ht:P.underlying t=some (.slice e)) (hx:P.underlying xt=some u) (hu:(∃e',u= .slice e')∨u= .string) (hi:P.info? e=some i) (h1:i.size=s)
  {a:Option Addr} {x:Value} (hl:∀w,(Builtin.lenOf x).run P w= .ok 0 w) (hn:(Builtin.firstCells s 0 x).run P w= .ok #[] w):
  (Builtin.append_ #[t,xt] ty #[.slice a 0 c,x]).run P w= .ok (.slice a 0 c) w:=by
 rcases hu with⟨e',rfl⟩ | rfl<;>cases a<;>simp[Builtin.append_,run_underlying ht,run_underlying hx,sizeOf,typeInfo,hi,h1,hl,hn,storeCells]
theorem kG {P:Program} (w:World) (s:Nat) (a:Option Addr) (n c:Nat):(Builtin.firstCells s 0 (.slice a n c)).run P w= .ok #[] w:=by
 cases a with
 | none=>simp[Builtin.firstCells]
 | some x=>
  have:=run_loadCells_list (P:=P) w x [] (fun j v hv=>by simp at hv)
  simpa [Builtin.firstCells] using this
section
variable {G:Glob} {P:Program} {N:Nat} {w0:Base G}
section
variable {m:PM} {s:Nat} {x:SV} {ys:List Value} {n:Nat} {c:Cst} {β:Nat→Loc} {w:World}
theorem srcV_first (hm:bG N w0 m β w) (h:srcV m s x=some (ys,n,c)) (hc:Holds c):
  ys.length=n*s∧∃a cap,x.den β= .slice a n cap∧(∀w',(∀i,i<w.heap.size→w'.heap[i]? =w.heap[i]?)→∀q,q≤n→(Builtin.firstCells s q (x.den β)).run P w'= .ok (ys.take (q*s)).toArray w'):=by
 unfold srcV at h
 split at h
 ·rename_i k b o n0 hv
  split at h<;>try cases h
  rename_i bl hb
  obtain⟨cap,hden⟩:=lD hv β
  have key:∀vs:List Value,(∀C,bl.row.is β (β k).c C→∃tail,C=vs++tail)→b+o+n0*s≤vs.length→
    ((vs.drop (b+o)).take (n0*s)).length=n0*s∧∃a cap,x.den β= .slice a n0 cap∧(∀w',(∀i,i<w.heap.size→w'.heap[i]? =w.heap[i]?)→∀q,q≤n0→(Builtin.firstCells s q (x.den β)).run P w'= .ok (((vs.drop (b+o)).take (n0*s)).take (q*s)).toArray w'):=by
   intro vs hvs hle
   refine⟨by rw[List.length_take,List.length_drop];omega,_,cap,hden,fun w' hw' q hq=> ?_⟩
   have hqs:q*s≤n0*s:=Nat.mul_le_mul_right _ hq
   obtain⟨fr,kD,C,hh,hp0,hC,_⟩:=hm.blk k bl hb
   obtain⟨tail,hCe⟩:=hvs C hC
   have hlt:(β k).a<w.heap.size:=by
    rcases Nat.lt_or_ge (β k).a w.heap.size with h' | h'
    ·exact h'
    ·rw[Array.getElem?_eq_none h'] at hh;cases hh
   have hh':w'.heap[(β k).a]? =some (.cells (kD++C).toArray bl.ty fr):=by rw[hw' _ hlt];exact hh
   rw[hden]
   simp only[Builtin.firstCells]
   rw[pR hh' hp0 (by rw[hCe,List.length_append];omega)]
   congr 2
   rw[hCe,List.drop_append_of_le_length (by omega),List.take_append_of_le_length (by rw[List.length_drop];omega),List.take_take,Nat.min_eq_left hqs]
  split at h
  ·rename_i cs hrow
   split at h<;>cases h
   rename_i hids
   have hids:bL cs=[]:=by simpa using hids
   exact key (litV cs) (fun C hC=>⟨[],by rw[hrow] at hC;rw[List.append_nil,←uo hids β];exact hC⟩) (by simpa [litV] using hc.1)
  ·rename_i s' vs lo hi hrow
   cases h
   exact key vs (fun C hC=>by rw[hrow] at hC;obtain⟨tail,h1,_⟩:=hC;exact⟨tail,h1⟩) hc.1
  ·rename_i vs hrow
   cases h
   exact key vs (fun C hC=>by rw[hrow] at hC;exact hC) hc.1
  ·cases h
 ·split at h<;>cases h
  rename_i a n0 c0
  exact⟨by simp,a,n0,rfl,fun w' _ q hq=>by
   obtain rfl:q=0:=Nat.le_zero.1 hq
   rw[Nat.zero_mul];exact kG w' s a 0 n0⟩
theorem lg (hm:bG N w0 m β w) (h:srcV m s x=some (ys,n,c)) (hc:Holds c):
  ys.length=n*s∧∃a cap,x.den β= .slice a n cap∧(∀w',(∀i,i<w.heap.size→w'.heap[i]? =w.heap[i]?)→(Builtin.firstCells s n (x.den β)).run P w'= .ok ys.toArray w'):=by
 obtain⟨h1,a,cap,h2,h3⟩:=srcV_first (P:=P) hm h hc
 refine⟨h1,a,cap,h2,fun w' hw'=> ?_⟩
 rw[h3 w' hw' n (Nat.le_refl _),List.take_of_length_le (by omega)]
end
theorem qN {m:PM} {fresh:Nat} {β:Nat→Loc} {w:World} (hm:bG N w0 m β w) (hf:m fresh=none) {t xt ty e:TypeId} {i:TypeInfo} {z:Value} {u:TypeDesc} {s:Nat}
  (ht:P.underlying t=some (.slice e)) (hx:P.underlying xt=some u) (hu:(∃e',u= .slice e')∨u= .string) (hi:P.info? e=some i) (hz:i.zero=some z) (h1:i.size=s) (hzc:z.cells.size=s)
  {base:Option Addr} {sLen sCap nx:Nat} {x:Value} {zs ys:List Value} (hzl:zs.length=sLen*s) (hyl:ys.length=nx*s) (hl:∀w,(Builtin.lenOf x).run P w= .ok nx w)
  (ho:(Builtin.firstCells s sLen (.slice base sLen sCap)).run P w.drew= .ok zs.toArray w.drew) (hn:(Builtin.firstCells s nx x).run P w.drew= .ok ys.toArray w.drew)
  (hg:sCap<sLen+nx) (hroom:Room P e (sLen+nx)):
  ∃w' β',(Builtin.append_ #[t,xt] ty #[.slice base sLen sCap,x]).run P w= .ok ((SV.o (.a (.slg fresh (sLen+nx)))).den β') w'∧(∀k,k≠fresh→β' k=β k)∧
   bG N w0 ((Eff.new ⟨true,e,.grv s (zs++ys) (sLen+nx) none⟩).app m fresh) β' w':=by
 obtain⟨j,hj,hb,h63⟩:=hroom
 rw[hi] at hj
 cases hj
 have hrun:=run_growS w (ty:=ty) ht hx hu hi hz h1 hl ho hn hg h63 (growslice_fits hg hb)
 have hge:=grownCap_ge w (sLen+nx) sCap e
 have hnew:=(hm.drawn).new hf (t:=e) (r:= .grv s (zs++ys) (sLen+nx) none) (c:=grownCap w (sLen+nx) sCap e)
  (C:=zs++ys++(Builtin.zeroCells z.cells (grownCap w (sLen+nx) sCap e-(sLen+nx))).toList) (by
   refine⟨_,rfl,?_,hge,fun h hh=>by cases hh⟩
   have hs:=size_zeroCells z.cells (grownCap w (sLen+nx) sCap e-(sLen+nx))
   rw[hzc] at hs
   simp only[List.length_append,Array.length_toList,hs,hzl,hyl]
   rw[←Nat.add_mul,←Nat.add_mul]
   congr 1
   omega) (by intro j hj;cases hj)
 refine⟨_,_,?_,?_,hnew⟩
 ·rw[hrun]
  simp[SV.den,SV1.den,Atom.den,Eng.upd,Loc.at]
  congr 2
  apply Array.ext'
  simp[List.append_assoc]
 ·intro k hk
  simp[Eng.upd,hk]
end
section
variable {G:Glob} {P:Program} {T:Ty} (hT:T.ok P) {N:Nat} {w0:Base G}
include hT
theorem eAppV_sound {m:PM} {fresh:Nat} {β:Nat→Loc} {w:World} {d:Bool} {t xt ty:TypeId} {s x v:SV} {e:Eff} {c:Cst} (hm:bG N w0 m β w) (hf:m fresh=none) (hs:∀k∈s.ids,(m k).isSome=true)
  (h:eAppV P T m d t xt s x=some (v,e,c)) (hc:Holds c):
  ∃w' β',(Builtin.append_ #[t,xt] ty #[s.den β,x.den β]).run P w= .ok ((v.fr fresh e).den β') w'∧(∀k,k≠fresh→β' k=β k)∧bG N w0 (e.app m fresh) β' w'∧(∀k∈(v.fr fresh e).ids,(e.app m fresh k).isSome=true):=by
 unfold eAppV at h
 split at h<;>try cases h
 rename_i e0 sz hek hni
 obtain⟨ht,i,z,hi,h1,hz,hzc⟩:=uG hT hek
 obtain⟨u,hx,hu⟩:=vX hT hni
 split at h<;>try cases h
 rename_i ys nx c1 hsrc
 have newIds:∀(n:Nat) (b:Blk) (k:Nat),k∈(SV.o (.a (.slg fresh n))).ids→((Eff.new b).app m fresh k).isSome=true:=by
  intro n b k hk
  simp only[SV.ids,SV1.ids,Atom.ids,List.mem_singleton] at hk
  subst hk
  simp[Eff.app,Eng.upd]
 split at h
 ·rename_i k n
  split at h
  ·rename_i bty s' vs lo hb
   split at h<;>cases h
   rename_i hk
   subst hk
   obtain⟨hc1,hn,hle,hone,_⟩:=aV hc
   obtain⟨hyl,a,cap,hxd,hfc⟩:=lg (P:=P) hm hsrc hc1
   obtain⟨fr,kD,C,hh,hp0,⟨tail,hC,hCl,hlo,_⟩,_⟩:=hm.blk k _ hb
   have hfx:=hfc w (fun _ _=>rfl)
   have hcl:(n+nx)*s'≤(β k).c*s':=Nat.mul_le_mul_right _ (by omega)
   rw[Nat.add_mul] at hcl
   obtain⟨w',r1,r2⟩:=hm.write (P:=P) hb rfl hh hp0 ys (n*s') (by omega) hone (r:= .grv s' (vs++ys) lo none) (by
    refine⟨tail.drop (nx*s'),?_,?_,hlo,fun h hh=>by cases hh⟩
    ·rw[hC,List.take_left' hn.symm,←List.drop_drop,List.drop_left' hn.symm,hyl,List.append_assoc]
    ·rw[←hCl]
     simp only[List.length_append,List.length_take,List.length_drop]
     omega) (by intro j hj;cases hj)
   refine⟨w',β,?_,fun _ _=>rfl,r2,?_⟩
   ·rw[hxd] at hfx ⊢
    exact run_fitsS w w' ht hx hu hi h1 (eH _ _ _) hfx (by omega) (by rw[Loc.gL,Nat.zero_add];exact r1)
   ·intro j hj
    simp only[SV.fr,SV.ids,SV1.ids,Atom.ids,List.mem_singleton] at hj
    subst hj
    simp[Eff.app,hb]
  ·rename_i own bty s' vs lo hcap hb
   split at h<;>cases h
   rename_i hk
   subst hk
   obtain⟨hc,hroom,_⟩:=aV hc
   obtain⟨hc1,hn,hle,_⟩:=aV hc
   obtain⟨hyl,a,cap,hxd,hfc⟩:=lg (P:=P) hm hsrc hc1
   obtain⟨fr,kD,C,hh,hp0,⟨tail,hC,hCl,hlo,hhi⟩,_⟩:=hm.blk k _ hb
   have hlt:=hhi hcap rfl
   have hfx:=hfc w.drew (fun _ _=>rfl)
   have hfo:(Builtin.firstCells s' n (.slice (some ((β k).at (0))) n (β k).c)).run P w.drew= .ok vs.toArray w.drew:=by
    simp only[Builtin.firstCells]
    rw[pR (w:=w.drew) hh hp0 (by rw[hC,List.length_append];omega),hC,List.drop_zero,List.take_left' hn.symm]
   rw[hxd] at hfx ⊢
   obtain⟨w',β',q1,q2,q3⟩:=qN hm hf (ty:=ty) ht hx hu hi hz h1 hzc hn.symm hyl (eH _ _ _) hfo hfx (by omega) hroom
   exact⟨w',β',q1,q2,q3,newIds _ _⟩
  ·cases h
 ·rename_i k o c0
  split at h
  ·cases h
   obtain⟨hc1,hn0,_⟩:=aV hc
   subst hn0
   obtain⟨hyl,a,cap,hxd,hfc⟩:=lg (P:=P) hm hsrc hc1
   have hfx:=hfc w (fun _ _=>rfl)
   rw[hxd]
   refine⟨w,β,run_fits0S w ht hx hu hi h1 (eH _ _ _) (kG w sz a 0 cap),fun _ _=>rfl,hm,fun j hj=>hs j hj⟩
  ·cases h
   obtain⟨hc,hroom,_⟩:=aV hc
   obtain⟨hc1,hlt,_⟩:=aV hc
   obtain⟨hyl,a,cap,hxd,hfc⟩:=lg (P:=P) hm hsrc hc1
   have hfx:=hfc w.drew (fun _ _=>rfl)
   rw[hxd] at hfx ⊢
   obtain⟨w',β',q1,q2,q3⟩:=qN hm hf (ty:=ty) (zs:=[]) (sLen:=0) (sCap:=c0) (base:=some ((β k).at o)) ht hx hu hi hz h1 hzc (by simp) hyl (eH _ _ _) (by simpa using kG w.drew sz (some ((β k).at o)) 0 c0) hfx (by omega) (by simpa using hroom)
   rw[Nat.zero_add] at q1 q3
   rw[List.nil_append] at q3
   exact⟨w',β',q1,q2,q3,newIds _ _⟩
 ·rename_i k o n c0
  split at h<;>try cases h
  rename_i zs n' c2 hsrc2
  obtain⟨hc,hroom,_⟩:=aV hc
  obtain⟨hc1,hc⟩:=aV hc
  obtain⟨hc2,hlt,_⟩:=aV hc
  have hn':n'=n+1:=by
   unfold srcV at hsrc2
   simp only[ig] at hsrc2
   split at hsrc2<;>try cases hsrc2
   split at hsrc2<;>try cases hsrc2
   all_goals first | rfl | (split at hsrc2<;>cases hsrc2;rfl)
  subst hn'
  obtain⟨hyl,a,cap,hxd,hfc⟩:=lg (P:=P) hm hsrc hc1
  obtain⟨hzl,_,_,_,hfz⟩:=lg (P:=P) hm hsrc2 hc2
  have hfx:=hfc w.drew (fun _ _=>rfl)
  have hfo:=hfz w.drew (fun _ _=>rfl)
  rw[hxd] at hfx ⊢
  obtain⟨w',β',q1,q2,q3⟩:=qN hm hf (ty:=ty) ht hx hu hi hz h1 hzc hzl hyl (eH _ _ _) hfo hfx hlt hroom
  exact⟨w',β',q1,q2,q3,newIds _ _⟩
 ·rename_i p
  split at h
  ·cases h
   obtain⟨hc1,hn0,_⟩:=aV hc
   subst hn0
   obtain⟨hyl,a,cap,hxd,hfc⟩:=lg (P:=P) hm hsrc hc1
   rw[hxd]
   exact⟨w,β,run_fits0S w ht hx hu hi h1 (eH _ _ _) (kG w sz a 0 cap),fun _ _=>rfl,hm,fun j hj=>by cases hj⟩
  ·cases h
   obtain⟨hc,hroom,_⟩:=aV hc
   obtain⟨hc1,hlt,_⟩:=aV hc
   obtain⟨hyl,a,cap,hxd,hfc⟩:=lg (P:=P) hm hsrc hc1
   have hfx:=hfc w.drew (fun _ _=>rfl)
   rw[hxd] at hfx ⊢
   obtain⟨w',β',q1,q2,q3⟩:=qN hm hf (ty:=ty) (zs:=[]) (sLen:=0) (sCap:=0) (base:=p) ht hx hu hi hz h1 hzc (by simp) hyl (eH _ _ _) (by simpa using kG w.drew sz p 0 0) hfx (by omega) (by simpa using hroom)
   rw[Nat.zero_add] at q1 q3
   rw[List.nil_append] at q3
   exact⟨w',β',q1,q2,q3,newIds _ _⟩
 ·cases h
end
section
variable {P:Program} {T:Ty} (hT:T.ok P)
include hT
theorem eFAd_sound {t:TypeId} {x v:SV} {f:Nat} {e:Eff} {c:Cst} (h:eFAd T t x f=some (v,e,c)) (hc:Holds c) (β:Nat→Loc) (w:World):
  e= .none∧(Instr.fieldAt t (x.den β) f).run P w= .ok (v.den β) w∧(∀k∈v.ids,k∈x.ids):=by
 unfold eFAd at h
 split at h<;>try cases h
 split at h<;>try cases h
 rename_i fs b hi
 split at h<;>try cases h
 rename_i off ft hf
 split at h<;>cases h
 rename_i n z s q hj
 obtain⟨F,hu,hF⟩:=(Ty.dD hT hi).2.2.2.2.2.1
 refine⟨rfl,?_,by simp[SV.ids,SV1.ids,Atom.ids]⟩
 have hFf:∃fd,F[f]? =some fd∧fd.offset=off∧fd.type=ft:=by
  have:(F.toList.map (fun f=>(f.offset,f.type)))[f]? =some (off,ft):=by rw[hF];exact hf
  rw[List.getElem?_map] at this
  cases hq:F.toList[f]? with
  | none=>rw[hq] at this;cases this
  | some fd=>
   rw[hq] at this
   have h2:=Option.some.inj this
   exact⟨fd,by simpa using hq,congrArg Prod.fst h2,congrArg Prod.snd h2⟩
 obtain⟨fd,h1,rfl,rfl⟩:=hFf
 simp[SV.den,SV1.den,Atom.den,Instr.fieldAt,run_underlying hu,h1,Instr.sureAddr,fieldPlace,bS hT hj,Loc.gL,Nat.add_assoc]
theorem eIAd_sound {t:TypeId} {x ix v:SV} {e:Eff} {c:Cst} (h:eIAd T t x ix=some (v,e,c)) (hc:Holds c) (β:Nat→Loc) (w:World):
  e= .none∧(Instr.indexAt t (x.den β) (ix.den β)).run P w= .ok (v.den β) w∧(∀k∈v.ids,k∈x.ids):=by
 unfold eIAd at h
 split at h<;>try cases h
 rename_i k b o k0 i
 split at h<;>cases h
 rename_i n s hse
 obtain⟨e0,ht,hs⟩:=mP hT hse
 obtain⟨h0,h1,_⟩:=hc
 refine⟨rfl,?_,fun j hj=>hj⟩
 show(Instr.indexAt t (.pointer (some ((β k).at (b+o)))) (.int k0 i)).run P w=_
 simp[Instr.indexAt,asIntOf,run_underlying ht,h0,h1,hs,SV.den,SV1.den,Atom.den,Loc.gL,kY,Instr.sureAddr,Nat.add_assoc]
end
def eMn (x y:SV):Option (SV × Eff × Cst):=
 match x,y with
 | .o (.a (.v (.int k a))),.o (.a (.v (.int _ b)))=>some (.o (.a (aG k (if b<a then b else a))),.none,[])
 | _,_=>none
theorem eMn_sound {P:Program} {ts:Array TypeId} {ty:TypeId} {x y v:SV} {e:Eff} {c:Cst} (h:eMn x y=some (v,e,c)) (β:Nat→Loc) (w:World):
  e= .none∧v.ids=[]∧(Builtin.min_ ts ty #[x.den β,y.den β]).run P w= .ok (v.den β) w:=by
 unfold eMn at h
 split at h<;>cases h
 exact⟨rfl,rfl,by simp[Builtin.min_,Builtin.min2,SV.den,SV1.den,Atom.den]⟩
def iU (c l o s:Nat):Nat:=if c=l then o else o+l*s
def slToS (ρ:Operand→SV) (s k b o n c:Nat) (lo hi:Option Operand):Option (SV × Eff × Cst):=
 match bnd ρ 0 lo,bnd ρ n hi with
 | some L,some H=>some (.o (.a (.sld k b (match lo with | none=>o | some _=>iU c L.toNat o s) (H.toNat-L.toNat) (c-L.toNat))),.none,[0≤L,L≤H,H≤c])
 | _,_=>none
theorem slToS_spec {ρ:Operand→SV} {s k b o n cp:Nat} {lo hi:Option Operand} {v:SV} {e:Eff} {c:Cst} (h:slToS ρ s k b o n cp lo hi=some (v,e,c)) (hc:Holds c):
  ∃L H,bnd ρ 0 lo=some L∧bnd ρ n hi=some H∧0≤L∧L≤H∧H≤cp∧e= .none∧v.ids=[k]∧
   ∀(β:Nat→Loc),v.den β= .slice (if cp=L.toNat then some ((β k).at (b+o)) else (some (((β k).at (b+o)):Addr)).map (·.add (L.toNat*s))) (H.toNat-L.toNat) (cp-L.toNat):=by
 unfold slToS at h
 split at h<;>cases h
 rename_i L H hL hH
 obtain⟨h0,h1,h2,_⟩:=hc
 refine⟨L,H,hL,hH,h0,h1,h2,rfl,rfl,fun β=> ?_⟩
 simp only[SV.den,SV1.den,Atom.den]
 congr 1
 cases lo with
 | none=>
  simp only[bnd,Option.some.injEq] at hL
  subst hL
  simp only[Int.toNat_zero,Nat.zero_mul,Option.map_some,Loc.gL,Nat.add_zero]
  split<;>rfl
 | some z=>
  simp only[iU]
  split
  ·rfl
  ·simp only[Option.map_some,Loc.gL,Nat.add_assoc]
def eSlV (T:Ty) (ρ:Operand→SV) (t:TypeId) (x:SV) (lo hi:Option Operand):Option (SV × Eff × Cst):=
 match x with
 | .o (.a (.sld k b o n c))=>match jL T t with
  | some s=>if s=1 then none else slToS ρ s k b o n c lo hi
  | none=>none
 | _=>none
section
variable {P:Program} {T:Ty} (hT:T.ok P)
include hT
theorem eSlV_sound {ρ:Operand→SV} {ρ':Operand→Value} {β:Nat→Loc} (hρ:∀x,ρ' x=(ρ x).den β) {t:TypeId} {x v:SV} {lo hi:Option Operand} {e:Eff} {c:Cst} (h:eSlV T ρ t x lo hi=some (v,e,c)) (hc:Holds c) (w:World):
  e= .none∧(Instr.sliceAt t (x.den β) (lo.map ρ') (hi.map ρ') none).run P w= .ok (v.den β) w∧(∀k∈v.ids,k∈x.ids):=by
 unfold eSlV at h
 split at h<;>try cases h
 rename_i k b o n cp
 split at h<;>try cases h
 rename_i s hse
 split at h<;>try cases h
 obtain⟨e0,ht,hs⟩:=gu hT hse
 obtain⟨L,H,hL,hH,h0,h1,h2,rfl,hid,hden⟩:=slToS_spec h hc
 refine⟨rfl,?_,fun j hj=>by rw[hid] at hj;exact hj⟩
 rw[hden]
 show(Instr.sliceAt t (.slice (some ((β k).at (b+o))) n cp) (lo.map ρ') (hi.map ρ') none).run P w=_
 simp only[Instr.sliceAt,Instr.slice,Sem.run_bind,run_underlying ht,Result.andThen_ok,Sem.run_pure,mW (P:=P) hρ hL hH h0 h1 h2,hs]
end
def iT (zs:List Value):Nat→List Value
 | 0=>[]
 | n+1=>zs++iT zs n
theorem nE (zs:List Value):∀n,(iT zs n).length=n*zs.length
 | 0=>by simp[iT]
 | n+1=>by rw[iT,List.length_append,nE zs n,Nat.add_mul,Nat.one_mul,Nat.add_comm]
theorem repV_get (zs:List Value):∀(n i:Nat),i<n*zs.length→(iT zs n)[i]? =zs[i%zs.length]?
 | 0,i,h=>by simp at h
 | n+1,i,h=>by
  rw[iT]
  rcases Nat.lt_or_ge i zs.length with h1 | h1
  ·rw[List.getElem?_append_left h1,Nat.mod_eq_of_lt h1]
  ·rw[List.getElem?_append_right h1,repV_get zs n _ (by rw[Nat.add_mul,Nat.one_mul] at h;omega),←Nat.mod_eq_sub_mod h1]
theorem madeCells_rep (zs:List Value) (n:Nat):madeCells zs.toArray (n*zs.length)=(iT zs n).toArray:=by
 unfold madeCells
 apply Array.ext'
 apply List.ext_getElem?
 intro i
 rcases Nat.lt_or_ge i (n*zs.length) with h | h
 ·rw[show(iT zs n).toArray.toList=iT zs n from rfl,repV_get zs n i h]
  have h1:i%zs.length<zs.length:=Nat.mod_lt _ (by
   rcases Nat.eq_zero_or_pos zs.length with q | q
   ·rw[q,Nat.mul_zero] at h;omega
   ·exact q)
  simp[List.getElem?_range h,List.getElem?_eq_getElem h1]
 ·rw[List.getElem?_eq_none (by simpa using h),List.getElem?_eq_none (by simpa [nE] using h)]
def eMkV (P:Program) (T:Ty) (t:TypeId) (l c:SV):Option (SV × Eff × Cst):=
 match elemV T t with
 | some (e,s)=>match l,c,T.get e with
  | .o (.a (.v (.int _ L))),.o (.a (.v (.int _ C))),some i=>some (.o (.a (.slg 0 L.toNat)),.new ⟨true,e,.grv s (iT (litV i.zero) L.toNat) L.toNat none⟩,[0≤L,L=C,Room P e L.toNat])
  | _,_,_=>none
 | none=>none
def eBSV (T:Ty) (ρ:Operand→SV) (d:Bool) (t:TypeId) (len:Nat) (parts:List (Nat × Operand)):Option (SV × Eff × Cst):=
 match d with
 | false=>none
 | true=>match elemV T t with
  | some (e,s)=>match eBS T ρ t len parts with
   | some (_,.new ⟨_,_,.lit cs⟩,_)=>match bL cs with
    | []=>some (.o (.a (.slg 0 len)),.new ⟨true,e,.grv s (litV cs) len none⟩,[cs.length=len*s])
    | _=>none
   | _=>none
  | none=>none
def qD (T:Ty) (m:PM) (t:TypeId) (s x:SV):Option (SV × Eff × Cst):=
 match elemV T t with
 | some (e,sz)=>match ig s,srcV m sz x with
  | some (k,b,o,n),some (ys,nx,c1)=>match m k with
   | some ⟨true,ty,.grv s' vs lo hi⟩=>if s'=sz then some (.o (.a (aG .i64 (Nat.min nx n:Nat))),.upd k (.grv sz (putV (b+o) (ys.take (Nat.min nx n*sz)) vs) lo hi),c1++[b+o+Nat.min nx n*sz≤vs.length,∀v∈ys,v.oneCell'=true]) else none
   | _=>none
  | _,_=>none
 | none=>none
section
variable {G:Glob} {P:Program} {T:Ty} (hT:T.ok P) {N:Nat} {w0:Base G}
include hT
theorem eMkV_sound {m:PM} {fresh:Nat} {β:Nat→Loc} {w:World} (hm:bG N w0 m β w) (hf:m fresh=none) {t:TypeId} {l cp v:SV} {e:Eff} {c:Cst} (h:eMkV P T t l cp=some (v,e,c)) (hc:Holds c):
  ∃w' β',(Instr.makeSlice t (l.den β) (cp.den β)).run P w= .ok ((v.fr fresh e).den β') w'∧(∀k,k≠fresh→β' k=β k)∧bG N w0 (e.app m fresh) β' w'∧(∀k∈(v.fr fresh e).ids,(e.app m fresh k).isSome=true):=by
 unfold eMkV at h
 split at h<;>try cases h
 rename_i e0 s hek
 obtain⟨ht,i,z,hi,h1,hz,hzc⟩:=uG hT hek
 split at h<;>cases h
 rename_i kl L kc C j hj
 obtain⟨h0,hle,⟨j',hj',hb,h63⟩,_⟩:=hc
 subst hle
 rw[hi] at hj'
 cases hj'
 have hag:j.agg=true:=by
  unfold elemV at hek
  split at hek<;>try cases hek
  split at hek<;>try cases hek
  rename_i i2 he2
  split at hek<;>cases hek
  have hag:= ‹(i2.agg&&i2.zero.length.beq i2.size)=true›
  rw[hj] at he2
  cases he2
  rw[Bool.and_eq_true] at hag
  exact hag.1
 have hzv:z.cells=(litV j.zero).toArray:=by
  have h2:=(Ty.dD hT hj).2.1
  rw[hi,Option.bind_some,hz,hag] at h2
  simp only[if_true,Option.some.injEq] at h2
  rw[h2]
  rfl
 have hl:(litV j.zero).length=s:=by
  rw[hzv] at hzc
  simpa using hzc
 have hrun:=run_make w t e0 i z ht hi hz kl kc L L h0 (Int.le_refl _) (by
  have:((L.toNat*i.bytes:Nat):Int)≤((140737488355328:Nat):Int):=Int.ofNat_le.2 hb
  rw[Int.natCast_mul,Int.toNat_of_nonneg (by omega),Int.mul_comm] at this
  omega) (by omega)
 rw[h1,hzv,←hl,madeCells_rep] at hrun
 have hnew:=hm.newF hf (t:=e0) (r:= .grv s (iT (litV j.zero) L.toNat) L.toNat none) (c:=L.toNat) (C:=iT (litV j.zero) L.toNat) true (0,0) (fun _=> .inl rfl)
  ⟨[],by simp,by rw[nE,hl],Nat.le_refl _,fun h hh=>by cases hh⟩ (by intro j hj;cases hj)
 refine⟨_,_,?_,fun k hk=>by simp[Eng.upd,hk],hnew,?_⟩
 ·show(Instr.makeSlice t (.int kl L) (.int kc L)).run P w=_
  rw[hrun]
  simp[SV.fr,SV.den,SV1.den,Atom.den,Eng.upd,Loc.at]
 ·intro k hk
  simp only[SV.fr,SV.ids,SV1.ids,Atom.ids,List.mem_singleton] at hk
  subst hk
  simp[Eff.app,Eng.upd]
theorem eBSV_sound {m:PM} {fresh:Nat} {β:Nat→Loc} {w:World} (hm:bG N w0 m β w) (hf:m fresh=none) {ρ:Operand→SV} {ρ':Operand→Value} (hρ:∀x,ρ' x=(ρ x).den β) {d:Bool} {t:TypeId} {len:Nat} {parts:Array (Nat × Operand)} {v:SV} {e:Eff} {c:Cst}
  (hids:∀p∈parts.toList,∀k∈(ρ p.2).ids,(m k).isSome=true) (h:eBSV T ρ d t len parts.toList=some (v,e,c)) (hc:Holds c):
  ∃w' β',(Instr.buildSlice t len (parts.map fun(i,x)=>(i,ρ' x))).run P w= .ok ((v.fr fresh e).den β') w'∧(∀k,k≠fresh→β' k=β k)∧bG N w0 (e.app m fresh) β' w'∧(∀k∈(v.fr fresh e).ids,(e.app m fresh k).isSome=true):=by
 unfold eBSV at h
 split at h<;>try cases h
 split at h<;>try cases h
 rename_i e0 s hek
 split at h<;>try cases h
 rename_i v1 o1 t1 cs c1 hbs
 split at h<;>cases h
 rename_i hnil
 obtain⟨hlen,_⟩:=hc
 obtain⟨cs',e1,he,rfl,rfl,hi,hrun⟩:=eBS_run hT (w:=w) hm hf hρ hids hbs
 cases he
 have h01:e0=t1:=by
  unfold elemV at hek
  unfold eBS at hbs
  split at hbs<;>try cases hbs
  rename_i ht
  rw[ht] at hek
  simp only at hek
  split at hbs<;>try cases hbs
  rename_i j hj
  rw[hj] at hek
  simp only at hek
  split at hbs<;>try cases hbs
  split at hbs<;>cases hbs
  split at hek<;>cases hek
  rfl
 subst h01
 have hl:(litV cs).length=len*s:=by rw[←hlen];simp[litV]
 have hnew:=hm.newF hf (t:=e0) (r:= .grv s (litV cs) len none) (c:=len) (C:=litV cs) true (0,0) (fun _=> .inl rfl)
  ⟨[],by simp,hl,Nat.le_refl _,fun h hh=>by cases hh⟩ (by intro j hj;cases hj)
 refine⟨_,_,?_,fun k hk=>by simp[Eng.upd,hk],hnew,?_⟩
 ·rw[hrun,uo hnil]
  simp[SV.fr,SV.den,SV1.den,Atom.den,Eng.upd,Loc.at]
 ·intro k hk
  simp only[SV.fr,SV.ids,SV1.ids,Atom.ids,List.mem_singleton] at hk
  subst hk
  simp[Eff.app,Eng.upd]
theorem eCopyV_sound {m:PM} {β:Nat→Loc} {w:World} {t xt ty:TypeId} {s x v:SV} {e:Eff} {c:Cst} (hm:bG N w0 m β w) (fresh:Nat)
  (h:qD T m t s x=some (v,e,c)) (hc:Holds c):
  ∃w',(Builtin.copy_ #[t,xt] ty #[s.den β,x.den β]).run P w= .ok (v.den β) w'∧bG N w0 (e.app m fresh) β w'∧v.ids=[]:=by
 unfold qD at h
 split at h<;>try cases h
 rename_i e0 sz hek
 obtain⟨ht,i,z,hi,h1,hz,hzc⟩:=uG hT hek
 split at h<;>try cases h
 rename_i k b o n ys nx c1 hv hsrc
 split at h<;>try cases h
 rename_i ty0 s' vs lo hi' hb
 split at h<;>cases h
 rename_i hss
 subst hss
 obtain⟨hc1,hle,hone,_⟩:=aV hc
 obtain⟨hyl,a,cap,hxd,hfc⟩:=srcV_first (P:=P) hm hsrc hc1
 obtain⟨cp,hsd⟩:=lD hv β
 obtain⟨fr,kD,C,hh,hp0,⟨tail,hCe,hCl,hlo,hhi⟩,_⟩:=hm.blk k _ hb
 have hmin:Nat.min nx n≤nx:=Nat.min_le_left _ _
 have hms:Nat.min nx n*s'≤nx*s':=Nat.mul_le_mul_right _ hmin
 have hfx:=hfc w (fun _ _=>rfl) (Nat.min nx n) hmin
 have hlen:(ys.take (Nat.min nx n*s')).length=Nat.min nx n*s':=by rw[List.length_take];omega
 obtain⟨w',r1,r2⟩:=hm.write (P:=P) hb rfl hh hp0 (ys.take (Nat.min nx n*s')) (b+o) (by rw[hCe,hlen];simp;omega) (fun v hv=>hone v (List.mem_of_mem_take hv)) (r:= .grv s' (putV (b+o) (ys.take (Nat.min nx n*s')) vs) lo hi') (by
  refine⟨tail,?_,?_,hlo,hhi⟩
  ·unfold putV
   rw[hCe,hlen,List.take_append_of_le_length (by omega),List.drop_append_of_le_length (by omega)]
   simp[List.append_assoc]
  ·rw[←hCl,hCe]
   simp only[List.length_append,List.length_take,List.length_drop,hlen]
   omega) (by intro j hj;cases hj)
 refine⟨w',?_,r2,rfl⟩
 rw[hxd] at hfx ⊢
 rw[hsd]
 simp[Builtin.copy_,run_underlying ht,Builtin.lenOf,sizeOf,typeInfo,hi,h1,hfx,r1,SV.den,SV1.den,Atom.den,goInt]
end
def orE (a b:Option (SV × Eff × Cst)):Option (SV × Eff × Cst):=match a with
 | some r=>some r
 | none=>b
theorem dw {a b:Option (SV × Eff × Cst)} {r:SV × Eff × Cst} (h:orE a b=some r):a=some r∨b=some r:=by
 unfold orE at h
 split at h
 ·exact .inl h
 ·exact .inr h
def dynC (P:Program) (G:Glob) (T:Ty) (ρ:Operand→SV) (m:PM) (d:Bool):Op→Option (SV × Eff × Cst)
 | .call ⟨.builtin b,args,ats⟩=>match b with
  | .append=>match args.toList,ats.toList with
   | [s,x],[t,xt]=>orE (eApp P T m d t xt (ρ s) (ρ x)) (eAppV P T m d t xt (ρ s) (ρ x))
   | _,_=>none
  | .copy=>match args.toList,ats.toList with
   | [s,x],[t,_]=>orE (eCopy T m t (ρ s) (ρ x)) (qD T m t (ρ s) (ρ x))
   | _,_=>none
  | .min=>match args.toList with
   | [x,y]=>eMn (ρ x) (ρ y)
   | _=>none
  | .len=>match args.toList,ats.toList with
   | [x],[t]=>orE (eLn T t (ρ x)) (eStLn T t (ρ x))
   | _,_=>none
  | _=>none
 | .makeSlice t l c=>orE (eMk P T t (ρ l) (ρ c)) (eMkV P T t (ρ l) (ρ c))
 | .buildSlice t len parts=>orE (eBSV T ρ d t len parts.toList) (orE (eBS T ρ t len parts.toList) (eBS0 T d t len parts.toList))
 | .slice t x lo hi none=>orE (eSl T ρ d t (ρ x) lo hi) (orE (eSlV T ρ t (ρ x) lo hi) (eSlG T ρ m t (ρ x) lo hi))
 | .indexAddr t x i=>orE (eIx T d t (ρ x) (ρ i)) (orE (eGIx T t (ρ x) (ρ i)) (eIAd T t (ρ x) (ρ i)))
 | .index t x i=>eStIx T t (ρ x) (ρ i)
 | .convert s t x=>orE (eCv T m s t (ρ x)) (orE (eCvS T m s t (ρ x)) (eCvN T s t (ρ x)))
 | .binOp op t x y _=>orE (eBn T op t (ρ x) (ρ y)) (orE (eRem d op (ρ x) (ρ y)) (eBnS P T op t (ρ x) (ρ y)))
 | .sliceToArrayPointer t x=>eS2A T t (ρ x)
 | .load t x=>orE (orE (eLd T m t (ρ x)) (eLdV T m t (ρ x))) (match d with | true=>eGLdV G T t (ρ x) | false=>eGLd G T t (ρ x))
 | .store t x y=>orE (eSt T m t (ρ x) (ρ y)) (eStV T m t (ρ x) (ρ y))
 | .fieldAddr t x f=>eFAd T t (ρ x) f
 | _=>none
def eDyn (P:Program) (G:Glob) (T:Ty) (ρ:Operand→SV) (m:PM) (fresh:Nat) (d:Bool) (op:Op):Option (SV × Eff × Cst):=
 match dynC P G T ρ m d op with
 | some (v,e,c)=>some (v.fr fresh e,e,c)
 | none=>none
theorem gX (fresh:Nat) (v:SV):v.fr fresh .none=v:=rfl
section
variable {G:Glob} {P:Program} {T:Ty} (hT:T.ok P) {N:Nat} {w0:Base G}
include hT
theorem eDyn_sound {ρ:Operand→SV} {ρ':Operand→Value} {m:PM} {fresh:Nat} {β:Nat→Loc} {w:World} {o:Oper} {v:SV} {e:Eff} {d:Bool} {c:Cst} (hρ:∀x,ρ' x=(ρ x).den β)
  (hm:bG N w0 m β w) (hf:m fresh=none) (hids:∀x∈o.op.operands.toList,∀k∈(ρ x).ids,(m k).isSome=true) (h:eDyn P G T ρ m fresh d o.op=some (v,e,c)) (hc:Holds c):
  iy P N w0 m fresh β w v e (execOp ρ' o):=by
 have h':∃v0,dynC P G T ρ m d o.op=some (v0,e,c)∧v=v0.fr fresh e:=by
  unfold eDyn at h
  split at h<;>cases h
  exact⟨_,by assumption,rfl⟩
 clear h
 obtain⟨v,h,rfl⟩:=h'
 obtain⟨dst,op,ty,pos,after,guard⟩:=o
 simp only at h hids
 cases op<;>simp only[dynC] at h<;>(try cases h)<;>simp only[execOp]
 case call cc=>
  obtain⟨callee,args,argTypes⟩:=cc
  cases callee<;>simp only[dynC] at h<;>(try cases h)
  rename_i b
  cases b<;>simp only at h<;>(try cases h)
  case append=>
   split at h<;>try cases h
   rename_i s x t xt ha hat
   have ha:args= #[s,x]:=Array.ext' ha
   have hat:argTypes= #[t,xt]:=Array.ext' hat
   subst ha hat
   obtain⟨w',β',h1,h2,h3,h4⟩:∃w' β',(Builtin.append_ #[t,xt] ty #[(ρ s).den β,(ρ x).den β]).run P w= .ok ((v.fr fresh e).den β') w'∧(∀k,k≠fresh→β' k=β k)∧bG N w0 (e.app m fresh) β' w'∧(∀k∈(v.fr fresh e).ids,(e.app m fresh k).isSome=true):=by
    rcases dw h with h | h
    ·exact eApp_sound hT (ty:=ty) hm hf (hids s (by simp[Op.operands,Call.operands])) h hc
    ·exact eAppV_sound hT (ty:=ty) hm hf (hids s (by simp[Op.operands,Call.operands])) h hc
   rw[←hρ,←hρ] at h1
   exact⟨w',β',.inl (by simp[resolve,invoke,builtin,h1]),h2,h3,h4⟩
  case copy=>
   split at h<;>try cases h
   rename_i s x t xt ha hat
   have ha:args= #[s,x]:=Array.ext' ha
   have hat:argTypes= #[t,xt]:=Array.ext' hat
   subst ha hat
   obtain⟨w',h1,h2,h3⟩:∃w',(Builtin.copy_ #[t,xt] ty #[(ρ s).den β,(ρ x).den β]).run P w= .ok (v.den β) w'∧bG N w0 (e.app m fresh) β w'∧v.ids=[]:=by
    rcases dw h with h | h
    ·exact eCopy_sound hT (ty:=ty) (xt:=xt) hm fresh h hc
    ·exact eCopyV_sound hT (ty:=ty) (xt:=xt) hm fresh h hc
   rw[←hρ,←hρ] at h1
   have hv:v.fr fresh e=v:=by
    rcases dw h with h | h
    ·unfold eCopy at h
     split at h<;>try cases h
     split at h<;>try cases h
     split at h<;>try cases h
     split at h<;>try cases h
     split at h<;>cases h
     rfl
    ·unfold qD at h
     split at h<;>try cases h
     split at h<;>try cases h
     split at h<;>try cases h
     split at h<;>cases h
     rfl
   rw[hv]
   exact⟨w',β,.inl (by simp[resolve,invoke,builtin,h1]),fun _ _=>rfl,h2,fun k hk=>by rw[h3] at hk;cases hk⟩
  case len=>
   split at h<;>try cases h
   rename_i x t ha hat
   have ha:args= #[x]:=Array.ext' ha
   have hat:argTypes= #[t]:=Array.ext' hat
   subst ha hat
   obtain⟨rfl,h3,h1⟩:e= .none∧v.ids=[]∧(Builtin.len_ #[t] ty #[(ρ x).den β]).run P w= .ok (v.den β) w:=by
    rcases dw h with h | h
    ·exact eLn_sound hT (ty:=ty) h β w
    ·exact eStLn_sound hT (ty:=ty) h β w
   rw[←hρ] at h1
   exact⟨w,β,.inl (by simp[resolve,invoke,builtin,h1,gX]),fun _ _=>rfl,hm,fun k hk=>by rw[gX,h3] at hk;cases hk⟩
  case min=>
   split at h<;>try cases h
   rename_i x y ha
   have ha:args= #[x,y]:=Array.ext' ha
   subst ha
   obtain⟨rfl,h3,h1⟩:=eMn_sound (P:=P) (ts:=argTypes) (ty:=ty) h β w
   rw[←hρ,←hρ] at h1
   exact⟨w,β,.inl (by simp[resolve,invoke,builtin,h1,gX]),fun _ _=>rfl,hm,fun k hk=>by rw[gX,h3] at hk;cases hk⟩
 case makeSlice t l cp=>
  obtain⟨w',β',h1,h2,h3,h4⟩:∃w' β',(Instr.makeSlice t ((ρ l).den β) ((ρ cp).den β)).run P w= .ok ((v.fr fresh e).den β') w'∧(∀k,k≠fresh→β' k=β k)∧bG N w0 (e.app m fresh) β' w'∧(∀k∈(v.fr fresh e).ids,(e.app m fresh k).isSome=true):=by
   rcases dw h with h | h
   ·exact eMk_sound hT hm hf h hc
   ·exact eMkV_sound hT hm hf h hc
  rw[←hρ,←hρ] at h1
  exact⟨w',β',.inl (by simp[h1]),h2,h3,h4⟩
 case buildSlice t len parts=>
  rcases dw h with h | h
  ·obtain⟨w',β',h1,h2,h3,h4⟩:=eBSV_sound hT hm hf hρ (fun p hp k hk=>hids p.2 (by simp only[Op.operands];exact List.mem_map.2 ⟨p,hp,rfl⟩) k hk) h hc
   exact⟨w',β',.inl (by simp[h1]),h2,h3,h4⟩
  rcases dw h with h | h
  ·obtain⟨w',β',h1,h2,h3,h4⟩:=eBS_sound hT hm hf hρ (fun p hp k hk=>hids p.2 (by simp only[Op.operands];exact List.mem_map.2 ⟨p,hp,rfl⟩) k hk) h
   exact⟨w',β',.inl (by simp[h1]),h2,h3,h4⟩
  ·obtain⟨w',β',h1,h2,h3,h4⟩:=eBS0_sound hT hm hf ρ' h
   exact⟨w',β',.inl (by simp[h1]),h2,h3,h4⟩
 case slice t x lo hi mx=>
  cases mx<;>simp only[dynC] at h<;>try cases h
  obtain⟨rfl,h1,h2⟩:e= .none∧(Instr.sliceAt t ((ρ x).den β) (lo.map ρ') (hi.map ρ') none).run P w= .ok (v.den β) w∧(∀k∈v.ids,k∈(ρ x).ids):=by
   rcases dw h with h | h
   ·exact eSl_sound hT hρ h hc w
   ·rcases dw h with h | h
    ·exact eSlV_sound hT hρ h hc w
    ·exact eSlG_sound hT hρ hm h hc
  rw[←hρ] at h1
  exact⟨w,β,.inl (by simp[h1,gX]),fun _ _=>rfl,hm,fun k hk=>hids x (by simp[Op.operands]) k (h2 k hk)⟩
 case indexAddr t x i=>
  obtain⟨rfl,h1,h2⟩:e= .none∧(Instr.indexAt t ((ρ x).den β) ((ρ i).den β)).run P w= .ok (v.den β) w∧(∀k∈v.ids,k∈(ρ x).ids):=by
   rcases dw h with h | h
   ·exact eIx_sound hT h hc β w
   ·rcases dw h with h | h
    ·obtain⟨g1,g2,g3⟩:=eGIx_sound hT h hc β w
     exact⟨g1,g3,fun k hk=>by rw[g2] at hk;cases hk⟩
    ·exact eIAd_sound hT h hc β w
  rw[←hρ,←hρ] at h1
  exact⟨w,β,.inl (by simp[h1,gX]),fun _ _=>rfl,hm,fun k hk=>hids x (by simp[Op.operands]) k (h2 k hk)⟩
 case load t x=>
  obtain⟨rfl,h1,h2⟩:e= .none∧(Instr.loadAt t ((ρ x).den β)).run P w= .ok (v.den β) w∧v.ids=[]:=by
   rcases dw h with h | h
   ·rcases dw h with h | h
    ·exact eLd_sound hT hm h hc
    ·exact eLdV_sound hT hm h hc
   ·split at h
    ·obtain⟨g1,g2,g3⟩:=eGLdV_sound hT hm h hc
     exact⟨g1,g3,g2⟩
    ·obtain⟨g1,g2,g3⟩:=eGLd_sound hT hm h hc
     exact⟨g1,g3,g2⟩
  rw[←hρ] at h1
  exact⟨w,β,.inl (by simp[h1,gX]),fun _ _=>rfl,hm,fun k hk=>by rw[gX,h2] at hk;cases hk⟩
 case index t x i=>
  obtain⟨rfl,h2,h1⟩:=eStIx_sound hT h hc β w
  rw[←hρ,←hρ] at h1
  exact⟨w,β,.inl (by simp[h1,gX]),fun _ _=>rfl,hm,fun k hk=>by rw[gX,h2] at hk;cases hk⟩
 case convert s t x=>
  rcases dw h with h | h
  ·obtain⟨w',β',h1,h2,h3,h4⟩:=eCv_sound hT hm hf h hc
   rw[←hρ] at h1
   exact⟨w',β',.inl (by simp[h1]),h2,h3,h4⟩
  ·rcases dw h with h | h
   ·obtain⟨rfl,rfl,w',h1,h2⟩:=eCvS_sound hT hm h
    rw[←hρ] at h1
    refine⟨w',β,.inl (by rw[gX,←hρ];simp[h1]),fun _ _=>rfl,h2,fun k hk=> ?_⟩
    rw[gX] at hk
    exact hids x (by simp[Op.operands]) k hk
   ·obtain⟨rfl,h2,h1⟩:=eCvN_sound hT h β w
    rw[←hρ] at h1
    exact⟨w,β,.inl (by simp[h1,gX]),fun _ _=>rfl,hm,fun k hk=>by rw[gX,h2] at hk;cases hk⟩
 case sliceToArrayPointer t x=>
  obtain⟨rfl,h1,h2⟩:=eS2A_sound hT h hc β w
  rw[←hρ] at h1
  exact⟨w,β,.inl (by simp[h1,gX]),fun _ _=>rfl,hm,fun k hk=>hids x (by simp[Op.operands]) k (h2 k hk)⟩
 case binOp op t x y yt=>
  have hh:e= .none∧v.ids=[]∧((do eqGuard op t x y ((ρ x).den β) ((ρ y).den β);binOp op t ((ρ x).den β) ((ρ y).den β)):Sem Value).run P w= .ok (v.den β) w:=by
   rcases dw h with h | h
   ·exact eBn_sound hT h β x y w
   ·rcases dw h with h | h
    ·exact eRem_sound h hc β x y w
    ·exact eBnS_sound h hc β x y w
  obtain⟨rfl,h2,h1⟩:=hh
  rw[←hρ,←hρ] at h1
  exact⟨w,β,.inl (by simp only[Sem.run_bind] at h1 ⊢;rw[h1];simp[gX]),fun _ _=>rfl,hm,fun k hk=>by rw[gX,h2] at hk;cases hk⟩
 case fieldAddr t x f=>
  obtain⟨rfl,h1,h2⟩:=eFAd_sound hT h hc β w
  rw[←hρ] at h1
  exact⟨w,β,.inl (by simp[h1,gX]),fun _ _=>rfl,hm,fun k hk=>hids x (by simp[Op.operands]) k (h2 k hk)⟩
 case store t x y=>
  obtain⟨w',rfl,h1,h2⟩:∃w',v=eu∧(Instr.storeAt t ((ρ x).den β) ((ρ y).den β)).run P w= .ok () w'∧bG N w0 (e.app m fresh) β w':=by
   rcases dw h with h | h
   ·exact eSt_sound hT hm fresh h hc
   ·exact eStV_sound hT hm fresh h hc
  rw[←hρ,←hρ] at h1
  have hv:eu.fr fresh e=eu:=by cases e<;>rfl
  rw[hv]
  exact⟨w',β,.inr ⟨by simp[h1],rfl⟩,fun _ _=>rfl,h2,fun k hk=>by cases hk⟩
end
theorem lH {m m':PM} {kd:IntKind} {x:SV} (h:∀k∈x.ids,m' k=m k):srcI m' kd x=srcI m kd x:=by
 unfold srcI
 split
 ·rename_i k b o n hv
  rw[h k (kM hv)]
 ·rfl
theorem eApp_congr {P:Program} {T:Ty} {m m':PM} {d:Bool} {t xt:TypeId} {s x:SV} (h1:∀k∈s.ids,m' k=m k) (h2:∀k∈x.ids,m' k=m k):eApp P T m' d t xt s x=eApp P T m d t xt s x:=by
 unfold eApp
 split
 ·rename_i e kd _ _
  rw[lH h2]
  split
  ·split
   ·rename_i k n
    rw[h1 k (by simp[SV.ids,SV1.ids,Atom.ids])]
   ·rename_i k b o n c
    rw[h1 k (by simp[SV.ids,SV1.ids,Atom.ids]),lH (x:= .o (.a (.sld k b o n c))) (fun j hj=>h1 j hj)]
   ·rename_i k o n c
    split
    ·rfl
    ·split
     ·rfl
     ·rename_i n
      rw[lH (x:= .o (.a (.slc k o (n+1) c))) (fun j hj=>h1 j hj)]
   ·rfl
   ·rfl
  ·rfl
 ·rfl
section
variable {T:Ty} {m m':PM}
theorem eCopy_congr {t:TypeId} {s x:SV} (h1:∀k∈s.ids,m' k=m k) (h2:∀k∈x.ids,m' k=m k):eCopy T m' t s x=eCopy T m t s x:=by
 unfold eCopy
 split
 ·rename_i e kd _
  rw[lH h2]
  split
  ·rename_i k b o n ys nx c1 hv hs
   rw[h1 k (kM hv)]
  ·rfl
 ·rfl
theorem eLd_congr {t:TypeId} {x:SV} (h:∀k∈x.ids,m' k=m k):eLd T m' t x=eLd T m t x:=by
 unfold eLd
 split
 ·rename_i k b o
  rw[h k (by simp[SV.ids,SV1.ids,Atom.ids])]
 ·rfl
theorem eSt_congr {t:TypeId} {x y:SV} (h:∀k∈x.ids,m' k=m k):eSt T m' t x y=eSt T m t x y:=by
 unfold eSt
 split
 ·rename_i k b o y
  rw[h k (by simp[SV.ids,SV1.ids,Atom.ids])]
 ·rfl
theorem eCv_congr {s t:TypeId} {x:SV} (h:∀k∈x.ids,m' k=m k):eCv T m' s t x=eCv T m s t x:=by
 unfold eCv
 split
 ·rfl
 ·rw[lH h]
theorem eCvS_congr {s t:TypeId} {x:SV} (h:∀k∈x.ids,m' k=m k):eCvS T m' s t x=eCvS T m s t x:=by
 unfold eCvS
 split
 ·rename_i k o n c
  rw[h k (by simp[SV.ids,SV1.ids,Atom.ids])]
 ·rfl
end
theorem qF {ρ ρ':Operand→SV} {dflt:Int} {o:Option Operand} (h:∀x∈o.toList,ρ' x=ρ x):bnd ρ' dflt o=bnd ρ dflt o:=by
 cases o with
 | none=>rfl
 | some x=>simp only[bnd,h x (by simp)]
theorem slTo_congr {ρ ρ':Operand→SV} {k b o n c:Nat} {lo hi:Option Operand} (h1:∀x∈lo.toList,ρ' x=ρ x) (h2:∀x∈hi.toList,ρ' x=ρ x):slTo ρ' k b o n c lo hi=slTo ρ k b o n c lo hi:=by
 unfold slTo
 rw[qF h1,qF h2]
theorem eSl_congr {T:Ty} {ρ ρ':Operand→SV} {d:Bool} {t:TypeId} {x:SV} {lo hi:Option Operand} (h1:∀x∈lo.toList,ρ' x=ρ x) (h2:∀x∈hi.toList,ρ' x=ρ x):eSl T ρ' d t x lo hi=eSl T ρ d t x lo hi:=by
 unfold eSl
 simp only[slTo_congr h1 h2]
theorem eBS_congr {T:Ty} {ρ ρ':Operand→SV} {t:TypeId} {len:Nat} {parts:List (Nat × Operand)} (h:∀p∈parts,ρ' p.2=ρ p.2):eBS T ρ' t len parts=eBS T ρ t len parts:=by
 have key:∀(parts:List (Nat × Operand)) (place:Nat→Option (Nat × Nat)) (cells:List Atom),(∀p∈parts,ρ' p.2=ρ p.2)→nk T place ρ' cells parts=nk T place ρ cells parts:=by
  intro parts
  induction parts with
  | nil=>intro _ _ _;rfl
  | cons p r ih=>
   intro place cells hp
   obtain⟨i,x⟩:=p
   have hx:=hp (i,x) (by simp)
   simp only at hx
   simp only[nk,hx]
   split
   ·split
    ·split
     ·exact ih _ _ fun q hq=>hp q (by simp[hq])
     ·rfl
    ·rfl
   ·rfl
 unfold eBS
 simp only[key parts _ _ h]
theorem tY {m m':PM} {s:Nat} {x:SV} (h:∀k∈x.ids,m' k=m k):srcV m' s x=srcV m s x:=by
 unfold srcV
 split
 ·rename_i k b o n hv
  rw[h k (kM hv)]
 ·rfl
theorem eCopyV_congr {T:Ty} {m m':PM} {t:TypeId} {s x:SV} (h1:∀k∈s.ids,m' k=m k) (h2:∀k∈x.ids,m' k=m k):qD T m' t s x=qD T m t s x:=by
 unfold qD
 split
 ·rename_i e sz _
  rw[tY h2]
  split
  ·rename_i k b o n ys nx c1 hv hs
   rw[h1 k (kM hv)]
  ·rfl
 ·rfl
theorem eSlV_congr {T:Ty} {ρ ρ':Operand→SV} {t:TypeId} {x:SV} {lo hi:Option Operand} (h1:∀x∈lo.toList,ρ' x=ρ x) (h2:∀x∈hi.toList,ρ' x=ρ x):eSlV T ρ' t x lo hi=eSlV T ρ t x lo hi:=by
 unfold eSlV slToS
 simp only[qF h1,qF h2]
theorem eAppV_congr {P:Program} {T:Ty} {m m':PM} {d:Bool} {t xt:TypeId} {s x:SV} (h1:∀k∈s.ids,m' k=m k) (h2:∀k∈x.ids,m' k=m k):eAppV P T m' d t xt s x=eAppV P T m d t xt s x:=by
 unfold eAppV
 split
 ·rename_i e sz _ _
  rw[tY h2]
  split
  ·split
   ·rename_i k n
    rw[h1 k (by simp[SV.ids,SV1.ids,Atom.ids])]
   ·rfl
   ·rename_i k o n c
    rw[tY (x:= .o (.a (.slc k o (n+1) c))) (fun j hj=>h1 j hj)]
   ·rfl
   ·rfl
  ·rfl
 ·rfl
theorem eLdV_congr {T:Ty} {m m':PM} {t:TypeId} {x:SV} (h:∀k∈x.ids,m' k=m k):eLdV T m' t x=eLdV T m t x:=by
 unfold eLdV
 split
 ·rename_i k b o hp
  rw[h k (rT hp loc0).2]
 ·rfl
theorem eStV_congr {T:Ty} {m m':PM} {t:TypeId} {x y:SV} (h:∀k∈x.ids,m' k=m k):eStV T m' t x y=eStV T m t x y:=by
 unfold eStV
 split
 ·rename_i k b o y hp
  rw[h k (rT hp loc0).2]
 ·rfl
section
variable {P:Program} {G:Glob} {T:Ty} {ρ ρ':Operand→SV} {m m':PM}
theorem dynC_congr {d:Bool} {op:Op} (hρ:∀x∈op.operands.toList,ρ' x=ρ x) (hm:access op=true→∀x∈op.operands.toList,∀k∈(ρ x).ids,m' k=m k):dynC P G T ρ' m' d op=dynC P G T ρ m d op:=by
 cases op<;>simp only[dynC]
 case call cc=>
  obtain⟨callee,args,ats⟩:=cc
  cases callee<;>simp only[dynC]
  rename_i b
  have hops:(Op.call ⟨.builtin b,args,ats⟩).operands.toList=args.toList:=by simp[Op.operands,Call.operands]
  rw[hops] at hρ hm
  replace hm:=hm rfl
  cases b<;>simp only
  case append=>
   split
   ·rename_i s x t xt ha hat
    rw[ha] at hρ hm
    rw[hρ s (by simp),hρ x (by simp),eApp_congr (hm s (by simp)) (hm x (by simp)),eAppV_congr (hm s (by simp)) (hm x (by simp))]
   ·rfl
  case copy=>
   split
   ·rename_i s x t xt ha hat
    rw[ha] at hρ hm
    rw[hρ s (by simp),hρ x (by simp)]
    rw[eCopy_congr (hm s (by simp)) (hm x (by simp)),eCopyV_congr (hm s (by simp)) (hm x (by simp))]
   ·rfl
  case min=>
   split
   ·rename_i x y ha
    rw[ha] at hρ
    rw[hρ x (by simp),hρ y (by simp)]
   ·rfl
  case len=>
   split
   ·rename_i x t ha hat
    rw[ha] at hρ
    rw[hρ x (by simp)]
   ·rfl
 case makeSlice t l c=>rw[hρ l (by simp[Op.operands]),hρ c (by simp[Op.operands])]
 case buildSlice t len parts=>
  unfold eBSV
  rw[eBS_congr fun p hp=>hρ p.2 (by simp only[Op.operands];exact List.mem_map.2 ⟨p,hp,rfl⟩)]
 case slice t x lo hi mx=>
  cases mx<;>simp only[dynC]
  rw[hρ x (by simp[Op.operands]),eSl_congr (fun y hy=>hρ y (by simp[Op.operands] at hy ⊢;simp[hy])) (fun y hy=>hρ y (by simp[Op.operands] at hy ⊢;simp[hy])),eSlV_congr (fun y hy=>hρ y (by simp[Op.operands] at hy ⊢;simp[hy])) (fun y hy=>hρ y (by simp[Op.operands] at hy ⊢;simp[hy]))]
  congr 1
  congr 1
  unfold eSlG
  split
  ·rename_i k n hh hx
   rw[hm rfl x (by simp[Op.operands]) k (by rw[hx];simp[SV.ids,SV1.ids,Atom.ids]),qF fun y hy=>hρ y (by simp[Op.operands] at hy ⊢;simp[hy])]
  ·rfl
 case indexAddr t x i=>rw[hρ x (by simp[Op.operands]),hρ i (by simp[Op.operands])]
 case load t x=>
  rw[hρ x (by simp[Op.operands]),eLd_congr (hm rfl x (by simp[Op.operands])),eLdV_congr (hm rfl x (by simp[Op.operands]))]
 case fieldAddr t x f=>rw[hρ x (by simp[Op.operands])]
 case index t x i=>rw[hρ x (by simp[Op.operands]),hρ i (by simp[Op.operands])]
 case convert s t x=>
  rw[hρ x (by simp[Op.operands]),eCv_congr (hm rfl x (by simp[Op.operands])),eCvS_congr (hm rfl x (by simp[Op.operands]))]
 case binOp op t x y yt=>rw[hρ x (by simp[Op.operands]),hρ y (by simp[Op.operands])]
 case sliceToArrayPointer t x=>rw[hρ x (by simp[Op.operands])]
 case store t x y=>
  rw[hρ x (by simp[Op.operands]),hρ y (by simp[Op.operands]),eSt_congr (hm rfl x (by simp[Op.operands])),eStV_congr (hm rfl x (by simp[Op.operands]))]
theorem eDyn_congr {fr fr':Nat} {d:Bool} {op:Op} {v:SV} {e:Eff} {c:Cst} (h:eDyn P G T ρ m fr d op=some (v,e,c)) (hρ:∀x∈op.operands.toList,ρ' x=ρ x) (hm:access op=true→∀x∈op.operands.toList,∀k∈(ρ x).ids,m' k=m k) (hf:e.kR=true→fr'=fr):eDyn P G T ρ' m' fr' d op=some (v,e,c):=by
 unfold eDyn at h ⊢
 rw[dynC_congr hρ hm]
 split at h<;>cases h
 simp only[Option.some.injEq,Prod.mk.injEq,and_true]
 cases e with
 | none=>rfl
 | new b=>rw[hf rfl]
 | upd k r=>rfl
theorem eDyn_none {fr fr':Nat} {d:Bool} {op:Op} (h:eDyn P G T ρ m fr d op=none) (hρ:∀x∈op.operands.toList,ρ' x=ρ x) (hm:access op=true→∀x∈op.operands.toList,∀k∈(ρ x).ids,m' k=m k):eDyn P G T ρ' m' fr' d op=none:=by
 unfold eDyn at h ⊢
 rw[dynC_congr hρ hm]
 split at h<;>cases h
 rfl
end
theorem eDyn_upd {P:Program} {G:Glob} {T:Ty} {ρ:Operand→SV} {m:PM} {fr:Nat} {d:Bool} {op:Op} {v:SV} {k:Nat} {r:Row} {c:Cst} (h:eDyn P G T ρ m fr d op=some (v,.upd k r,c)):(m k).isSome=true:=by
 have h':∃v0,dynC P G T ρ m d op=some (v0,.upd k r,c):=by
  unfold eDyn at h
  split at h<;>cases h
  exact⟨_,by assumption⟩
 clear h
 obtain⟨v,h⟩:=h'
 cases op<;>simp only[dynC] at h<;>(try cases h)
 case call cc=>
  obtain⟨callee,args,ats⟩:=cc
  cases callee<;>simp only[dynC] at h<;>(try cases h)
  rename_i b
  cases b<;>simp only at h<;>(try cases h)
  case append=>
   split at h<;>try cases h
   rcases dw h with h | h
   ·unfold eApp growTo at h
    split at h<;>try cases h
    split at h<;>try cases h
    split at h
    ·split at h
     ·rename_i hb
      split at h<;>cases h
      simp[hb]
     ·rename_i hb
      split at h<;>try cases h
      split at h<;>cases h
      simp[hb]
     ·cases h
    ·split at h
     ·split at h<;>try cases h
      rename_i hb
      split at h<;>try cases h
      split at h<;>cases h
      simp[hb]
     ·split at h<;>cases h
    ·split at h
     ·cases h
     ·split at h
      ·cases h
      ·split at h<;>cases h
    ·split at h<;>cases h
    ·cases h
   ·unfold eAppV growV at h
    split at h<;>try cases h
    split at h<;>try cases h
    split at h
    ·split at h
     ·rename_i hb
      split at h<;>cases h
      simp[hb]
     ·split at h<;>cases h
     ·cases h
    ·split at h<;>cases h
    ·split at h<;>cases h
    ·split at h<;>cases h
    ·cases h
  case copy=>
   split at h<;>try cases h
   rcases dw h with h | h
   ·unfold eCopy at h
    split at h<;>try cases h
    split at h<;>try cases h
    split at h<;>try cases h
    rename_i hb
    split at h<;>try cases h
    split at h<;>cases h
    simp[hb]
   ·unfold qD at h
    split at h<;>try cases h
    split at h<;>try cases h
    split at h<;>try cases h
    rename_i hb
    split at h<;>cases h
    simp[hb]
  case min=>
   split at h<;>try cases h
   unfold eMn at h
   split at h<;>cases h
  case len=>
   split at h<;>try cases h
   rcases dw h with h | h
   ·unfold eLn at h
    split at h<;>try cases h
    split at h<;>cases h
   ·unfold eStLn at h
    split at h<;>try cases h
    split at h<;>cases h
 case makeSlice t l c=>
  rcases dw h with h | h
  ·unfold eMk at h
   split at h<;>try cases h
   split at h<;>cases h
  ·unfold eMkV at h
   split at h<;>try cases h
   split at h<;>cases h
 case buildSlice t len parts=>
  rcases dw h with h | h
  ·unfold eBSV at h
   split at h<;>try cases h
   split at h<;>try cases h
   split at h<;>try cases h
   split at h<;>cases h
  rcases dw h with h | h
  ·unfold eBS at h
   split at h<;>try cases h
   split at h<;>try cases h
   split at h<;>try cases h
   split at h<;>cases h
  ·unfold eBS0 at h
   split at h
   ·split at h<;>try cases h
    split at h<;>cases h
   ·split at h<;>cases h
 case slice t x lo hi mx=>
  cases mx<;>simp only[dynC] at h<;>try cases h
  rcases dw h with h | h
  ·unfold eSl slTo at h
   split at h
   ·split at h<;>try cases h
    split at h<;>try cases h
    split at h<;>cases h
   ·split at h<;>try cases h
    split at h<;>try cases h
    split at h<;>cases h
   ·split at h<;>try cases h
    split at h<;>try cases h
    split at h<;>cases h
   ·cases h
  rcases dw h with h | h
  ·unfold eSlV slToS at h
   split at h<;>try cases h
   split at h<;>try cases h
   split at h<;>try cases h
   split at h<;>cases h
  ·unfold eSlG at h
   split at h<;>try cases h
   split at h<;>cases h
 case indexAddr t x i=>
  rcases dw h with h | h
  ·unfold eIx at h
   split at h<;>try cases h
   split at h
   ·split at h<;>cases h
   ·split at h<;>cases h
   ·split at h<;>try cases h
    split at h<;>cases h
   ·split at h<;>try cases h
    split at h<;>cases h
   ·cases h
  ·rcases dw h with h | h
   ·unfold eGIx at h
    split at h<;>try cases h
    ·split at h<;>cases h
    ·split at h<;>cases h
   ·unfold eIAd at h
    split at h<;>try cases h
    split at h<;>cases h
 case index t x i=>
  unfold eStIx at h
  split at h<;>try cases h
  split at h<;>cases h
 case convert s t x=>
  rcases dw h with h | h
  ·unfold eCv at h
   split at h
   ·split at h<;>try cases h
    split at h<;>cases h
   ·split at h<;>try cases h
    split at h<;>try cases h
    split at h<;>cases h
  ·rcases dw h with h | h
   ·obtain⟨_,_,_,_,_,_,_,_,_,_,_,_,he⟩:=eCvS_inv h
    cases he
   ·unfold eCvN at h
    split at h<;>try cases h
    split at h<;>try cases h
    split at h<;>cases h
 case sliceToArrayPointer t x=>
  unfold eS2A at h
  split at h<;>try cases h
  split at h
  ·split at h<;>cases h
  ·cases h
  ·cases h
  ·cases h
 case binOp op t x y yt=>
  rcases dw h with h | h
  ·unfold eBn at h
   split at h
   ·split at h<;>cases h
   ·split at h<;>cases h
   ·split at h<;>cases h
   ·cases h
  ·rcases dw h with h | h
   ·unfold eRem at h
    split at h<;>try cases h
    split at h<;>cases h
   ·unfold eBnS at h
    split at h<;>try cases h
    split at h<;>try cases h
    split at h<;>cases h
 case load t x=>
  rcases dw h with h | h
  ·rcases dw h with h | h
   ·unfold eLd at h
    split at h<;>try cases h
    split at h<;>try cases h
    split at h<;>try cases h
    split at h<;>cases h
   ·unfold eLdV at h
    split at h<;>try cases h
    split at h<;>try cases h
    split at h<;>try cases h
    split at h<;>cases h
  ·split at h
   ·unfold eGLdV at h
    split at h<;>try cases h
    split at h<;>try cases h
    split at h<;>cases h
   ·unfold eGLd at h
    split at h<;>try cases h
    split at h<;>try cases h
    split at h<;>cases h
 case fieldAddr t x f=>
  unfold eFAd at h
  split at h<;>try cases h
  split at h<;>try cases h
  split at h<;>try cases h
  split at h<;>cases h
 case store t x y=>
  rcases dw h with h | h
  ·unfold eSt at h
   split at h<;>try cases h
   split at h<;>try cases h
   rename_i hb
   split at h<;>try cases h
   split at h<;>try cases h
   split at h<;>cases h
   simp[hb]
  ·unfold eStV at h
   split at h<;>try cases h
   split at h<;>try cases h
   rename_i hb
   split at h<;>cases h
   simp[hb]
end Go.Eng
