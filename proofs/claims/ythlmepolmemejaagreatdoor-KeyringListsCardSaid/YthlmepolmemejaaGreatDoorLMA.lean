/- An argument that is a row of numbers, by value: what its reading says of it. -/
import Derived.Test.YthlmepolmemejaaGreatDoorRows
import Derived.WalkKit
import Derived.ProofKit
import Derived.OpenShut
import Derived.Below
import Derived.Carry
import Derived.JoinedCond
import Derived.Test.YthlmepolmemejaaGreatDoorLEngY
set_option linter.unusedSimpArgs false
set_option linter.unusedVariables false
namespace Go.Proofs.YthlmepolmemejaaGreatDoor
open Go Go.ChangeShapes Go.WideShapes Go.ChangeAt Go.RowKit
section
variable {H:Type} {enc:TypeId × Value→H} {P:Program} {w:World} {base:Nat} {spare:Nat→Bool} {held:Bool}
end
end Go.Proofs.YthlmepolmemejaaGreatDoor
namespace Go.Eng
open Go.RowKit
inductive Itm where
 | w (x:Win)
 | v (a:Value)
def Itm.ys:Itm→List Int
 | .w x=>x.ys
 | .v _=>[]
def Itm.isW:Itm→Bool
 | .w _=>true
 | .v _=>false
def dR:List Itm→List Win
 | []=>[]
 | .w x::r=>x::dR r
 | .v _::r=>dR r
def cstI:List Itm→Cst
 | []=>[]
 | .w x::r=>x.cst++cstI r
 | .v _::r=>cstI r
def oM:List Itm→List Bool
 | []=>[]
 | x::r=>x.isW::oM r
def ysI:List Itm→List (List Int)
 | []=>[]
 | x::r=>x.ys::ysI r
def locI:Nat→List Itm→List Atom
 | _,[]=>[]
 | i,.w x::r=> .slg i x.n::locI (i+1) r
 | i,.v a::r=> .v a::locI i r
def bl2:List Bool→List Bool→Bool
 | [],[]=>true
 | true::r,true::s=>bl2 r s
 | false::r,false::s=>bl2 r s
 | _,_=>false
theorem bl2_eq:∀{a b:List Bool},bl2 a b=true→a=b
 | [],[],_=>rfl
 | true::r,true::s,h=>by rw[bl2_eq (a:=r) (b:=s) h]
 | false::r,false::s,h=>by rw[bl2_eq (a:=r) (b:=s) h]
 | [],_::_,h=>by simp[bl2] at h
 | _::_,[],h=>by simp[bl2] at h
 | true::_,false::_,h=>by simp[bl2] at h
 | false::_,true::_,h=>by simp[bl2] at h
def kR (m:PM) (kd:IntKind):List Atom→Option (List Itm × List gL)
 | []=>some ([],[])
 | a::r=>match kR m kd r with
  | some (its,qs)=>match a with
   | .v (.slice p 0 c)=>some (.v (.slice p 0 c)::its,qs)
   | a=>match pJ m kd (.o (.a a)) with
    | some (x,q)=>some (.w x::its,q::qs)
    | none=>none
  | none=>none
def ItmOk (m:PM) (kd:IntKind) (x:Win) (q:gL):Prop:=
 x.ys.length=x.n∧∃bm base xs o,m q.1=some bm∧bm.ty=x.ty∧bm.row.ints base=some (kd,xs)∧q.2.1=base+o∧o+x.ys.length≤xs.length∧x.ys=(xs.drop o).take x.ys.length
theorem xD {m:PM} {kd:IntKind}:∀(cs:List Atom) (i:Nat) {its:List Itm} {qs:List gL} (_:kR m kd cs=some (its,qs)) (_:Holds (cstI its)),
  qs.length=(dR its).length∧(∀(j:Nat) (x:Win),(dR its)[j]? =some x→∃q,qs[j]? =some q∧ItmOk m kd x q)∧
  ∀(β:Nat→Loc) (κ σ:Nat→Nat) (χ:Nat→Option Nat),(∀(j:Nat) (q:gL),qs[j]? =some q→κ (i+j)=q.1∧σ (i+j)=q.2.1∧χ (i+j)=q.2.2)→cs.map (Atom.den β)=(locI i its).map (Atom.den (jg β κ σ χ))
 | [],i,its,qs,h,hc=>by
  simp only[kR,Option.some.injEq,Prod.mk.injEq] at h
  obtain⟨rfl,rfl⟩:=h
  exact⟨rfl,fun j x hx=>by simp[dR] at hx,fun _ _ _ _ _=>rfl⟩
 | a::r,i,its,qs,h,hc=>by
  unfold kR at h
  split at h<;>try cases h
  rename_i its' qs' hr
  split at h
  ·rename_i p c
   cases h
   obtain⟨h1,h2,h3⟩:=xD r i hr hc
   exact⟨h1,h2,fun β κ σ χ hk=>by simp only[List.map_cons,locI];rw[h3 β κ σ χ hk];rfl⟩
  ·split at h<;>cases h
   rename_i x q hw
   obtain⟨hc1,hc2⟩:=aR hc
   obtain⟨h1,h2,h3⟩:=xD r (i+1) hr hc2
   obtain⟨g1,g2,g3,g4⟩:=xX hw hc1
   refine⟨by simp[dR,h1],fun j y hy=> ?_,fun β κ σ χ hk=> ?_⟩
   ·cases j with
    | zero=>simp only[dR,List.getElem?_cons_zero,Option.some.injEq] at hy;subst hy;exact⟨q,rfl,g1,g3⟩
    | succ j=>exact h2 j y (by simpa [dR] using hy)
   ·simp only[List.map_cons,locI]
    rw[h3 β κ σ χ fun j q' hq=>by have:=hk (j+1) q' (by simpa using hq);rwa [show i+1+j=i+(j+1) by omega]]
    congr 1
    obtain⟨k1,k2,k3⟩:=hk 0 q rfl
    have:=g4 β
    rw[show SV.den β (.o (.a a))=a.den β from rfl] at this
    rw[this]
    simp only[Atom.den,jg,Nat.add_zero] at k1 k2 k3 ⊢
    rw[k1,k2,k3]
theorem yU {m:PM} {kd:IntKind}:∀(cs:List Atom) {its:List Itm} {qs:List gL},kR m kd cs=some (its,qs)→∀q∈qs,(m q.1).isSome=true
 | [],its,qs,h,q,hq=>by
  simp only[kR,Option.some.injEq,Prod.mk.injEq] at h
  obtain⟨rfl,rfl⟩:=h
  cases hq
 | a::r,its,qs,h,q,hq=>by
  unfold kR at h
  split at h<;>try cases h
  rename_i its' qs' hr
  split at h
  ·cases h
   exact yU r hr q hq
  ·split at h<;>cases h
   rename_i x q' hw
   rcases List.mem_cons.1 hq with rfl | hq
   ·unfold pJ at hw
    split at hw<;>try cases hw
    split at hw<;>try cases hw
    rename_i bl hb
    split at hw<;>try cases hw
    split at hw<;>cases hw
    simp[hb]
   ·exact yU r hr q hq
theorem Ab {m m':PM} {kd:IntKind}:∀(cs:List Atom),(∀k∈bB cs,m' k=m k)→kR m' kd cs=kR m kd cs
 | [],_=>rfl
 | a::r,h=>by
  simp only[kR]
  rw[Ab r fun k hk=>h k (by simp[bB,hk])]
  have hw:pJ m' kd (.o (.a a))=pJ m kd (.o (.a a)):=xk fun k hk=>h k (by simp only[bB,List.mem_append];exact .inl hk)
  split
  ·split
   ·rfl
   ·rw[hw]
  ·rfl
theorem locI_ids:∀(its:List Itm) (i:Nat),∀k∈bB (locI i its),k<i+(dR its).length
 | [],i,k,hk=>by cases hk
 | .w x::r,i,k,hk=>by
  simp only[locI,bB,Atom.ids,List.mem_append,List.mem_singleton] at hk
  simp only[dR,List.length_cons]
  rcases hk with rfl | hk
  ·omega
  ·have:=locI_ids r (i+1) k hk;omega
 | .v a::r,i,k,hk=>by
  simp only[locI,bB,Atom.ids,List.nil_append] at hk
  exact locI_ids r i k hk
structure LstA where
 its:List Itm
 n:Nat
 ty:TypeId
def blksL (kd:IntKind) (x:LstA):List Blk:=⟨false,x.ty,.lit (locI 1 x.its)⟩::(dR x.its).map fun y=>⟨false,y.ty,.pre kd y.ys⟩
theorem Am {kd:IntKind} {x:LstA}:∀b∈blksL kd x,b.own=false:=by
 intro b hb
 simp only[blksL,List.mem_cons,List.mem_map] at hb
 rcases hb with rfl | ⟨y,_,rfl⟩<;>rfl
def lstOf (m:PM) (kd:IntKind) (shp:List Bool) (args:List SV):Option (LstA × List gL):=
 match args with
 | [.o (.a (.slc k 0 n c))]=>match Nat.beq c n,m k with
  | true,some ⟨_,ty,.lit cs⟩=>match kR m kd cs with
   | some (its,qs)=>match bl2 (oM its) shp&&Nat.beq n shp.length with
    | true=>some (⟨its,n,ty⟩,(k,0,none)::qs)
    | false=>none
   | none=>none
  | _,_=>none
 | _=>none
theorem Aa {m:PM} {kd:IntKind} {shp:List Bool} {args:List SV} {x:LstA} {κ:List gL} (h:lstOf m kd shp args=some (x,κ)):
  ∃k own cs qs,args=[.o (.a (.slc k 0 x.n x.n))]∧m k=some ⟨own,x.ty,.lit cs⟩∧kR m kd cs=some (x.its,qs)∧oM x.its=shp∧x.n=shp.length∧κ=(k,0,none)::qs:=by
 unfold lstOf at h
 split at h<;>try cases h
 rename_i k n c
 split at h<;>try cases h
 rename_i own ty cs hcn hm
 split at h<;>try cases h
 rename_i its qs hi
 split at h<;>cases h
 rename_i hs
 simp only[Bool.and_eq_true] at hs
 have:=Nat.eq_of_beq_eq_true hcn
 subst this
 exact⟨k,own,cs,qs,rfl,hm,hi,bl2_eq hs.1,Nat.eq_of_beq_eq_true hs.2,rfl⟩
theorem getD_succ {α:Type} (a:α) (l:List α) (j:Nat) (d:α):(a::l).getD (1+j) d=l.getD j d:=by
 rw[Nat.add_comm];rfl
def Dec.list (P:Program) (kd:IntKind) (shp:List Bool) (res:List (List Int)→SV) (eff:List (List Int)→dh) (pre:List (List Int)→Cst)
  (good:∀ls,match eff ls with | .none=>(res ls).ids=[] | .new _ row=>row.ids=[] | .upd _ _=>False):Dec P LstA where
 largs x:=[.o (.a (.slc 0 0 x.n x.n))]
 lblks x:=blksL kd x
 res x:=res (ysI x.its)
 eff x:=eff (ysI x.its)
 pre x:=cstI x.its++pre (ysI x.its)
 inv x:=oM x.its=shp∧x.n=shp.length∧∀y∈dR x.its,y.ys.length=y.n
 dec m args:=lstOf m kd shp args
 ok m args x κ h hc:=by
  obtain⟨k,own,cs,qs,rfl,hmk,hi,hs,hn,rfl⟩:=Aa h
  obtain⟨h1,h2,h3⟩:=xD cs 1 hi (aR hc).1
  have hk:∀j q,qs[j]? =some q→(((k,0,none)::qs).getD (1+j) ((0,0,none):gL)).1=q.1∧(((k,0,none)::qs).getD (1+j) ((0,0,none):gL)).2.1=q.2.1∧(((k,0,none)::qs).getD (1+j) ((0,0,none):gL)).2.2=q.2.2:=fun j q hq=>by
   rw[getD_succ,List.getD,hq]
   exact⟨rfl,rfl,rfl⟩
  refine⟨⟨hs,hn,fun y hy=> ?_⟩,⟨?_,?_⟩,fun β=> ?_⟩
  ·obtain⟨j,hj⟩:=List.mem_iff_getElem?.1 hy
   obtain⟨q,_,g,_⟩:=h2 j y hj
   exact g
  ·intro i b hb
   cases i with
   | zero=>
    simp only[blksL,List.getElem?_cons_zero,Option.some.injEq] at hb
    subst hb
    refine⟨_,hmk,rfl,.inr ⟨rfl,rfl,rfl,fun β n C hC=> ?_,fun j hj=> ?_⟩⟩
    ·show C=_
     have hC:C=cs.map (Atom.den β):=hC
     rw[hC]
     exact h3 β _ _ _ hk
    ·have:=locI_ids x.its 1 j hj
     simp only[blksL,List.length_cons,List.length_map]
     omega
   | succ i=>
    simp only[blksL,List.getElem?_cons_succ,List.getElem?_map] at hb
    obtain⟨y,hy,rfl⟩:=Option.map_eq_some_iff.1 hb
    obtain⟨q,hq,g1,bm,base,xs,o,g2,g3,g4,g5,g6,g7⟩:=h2 i y hy
    have hq':((k,0,none)::qs).getD (i+1) ((0,0,none):gL)=q:=by
     show qs.getD i _=q
     rw[List.getD,hq];rfl
    refine⟨bm,?_,g3,.inl ⟨rfl,.inr (.inl ⟨rfl,kd,y.ys,base,xs,o,rfl,g4,?_,g6,g7⟩)⟩⟩
    ·rw[hq'];exact g2
    ·rw[hq'];exact g5
  ·intro i j b c hb hc ho
   have:=Am b (List.mem_of_getElem? hb)
   rw[this] at ho;cases ho
  ·simp[SV.den,SV1.den,Atom.den,jg,Loc.at]
 sm m args x κ h i hi:=by
  obtain⟨k,own,cs,qs,rfl,hmk,hii,hs,hn,rfl⟩:=Aa h
  cases i with
  | zero=>simp[hmk]
  | succ i=>
   show(m (qs.getD i (0,0,none)).1).isSome=true
   have hlen:qs.length=(dR x.its).length:=by
    clear hi hs hn h hmk
    generalize hq:x.its=its at hii
    clear hq
    induction cs generalizing its qs with
    | nil=>simp only[kR,Option.some.injEq,Prod.mk.injEq] at hii;obtain⟨rfl,rfl⟩:=hii;rfl
    | cons a r ih=>
     unfold kR at hii
     split at hii<;>try cases hii
     rename_i its' qs' hr
     split at hii
     ·cases hii;exact ih (qs:=qs) (its:=its') hr
     ·split at hii<;>cases hii
      simp[dR,ih (qs:=qs') (its:=its') hr]
   have hi':i<qs.length:=by
    simp only[blksL,List.length_cons,List.length_map] at hi
    omega
   rw[List.getD,List.getElem?_eq_getElem hi']
   exact yU cs hii _ (List.getElem_mem hi')
 loc m m' args h hd:=by
  unfold lstOf
  split
  ·rename_i k n c
   have hk:m' k=m k:=h (.o (.a (.slc k 0 n c))) (by simp) k (by simp[SV.ids,SV1.ids,Atom.ids])
   rw[hk]
   split
   ·rename_i own ty cs hcn hm
    rw[Ab cs fun j hj=>hd (.o (.a (.slc k 0 n c))) (by simp) k (by simp[SV.ids,SV1.ids,Atom.ids]) _ hm j hj]
   ·rfl
  ·rfl
 ids x y hy k hk:=by
  simp only[List.mem_singleton] at hy
  subst hy
  simp only[SV.ids,SV1.ids,Atom.ids,List.mem_singleton] at hk
  subst hk
  simp[blksL]
 good x:=by
  have hg:=good (ysI x.its)
  generalize eff (ysI x.its)=e at hg
  cases e with
  | none=>exact⟨hg,Am⟩
  | upd ty r=>exact hg.elim
  | new ty r=>exact⟨hg,Am⟩
structure GroA where
 xs:List Int
 n:Nat
 lo:Nat
 hi:Option Nat
 ty:TypeId
 k:IntKind
 v:Int
def groOf (m:PM) (kd:IntKind) (inPl:Bool) (args:List SV):Option (GroA × List gL):=
 match args with
 | [.o (.a (.slg k n)),.o (.a (.v (.int kv v)))]=>match m k with
  | some ⟨true,ty,.gro kd' xs lo none⟩=>match inPl with
   | true=>if kd'=kd then some (⟨xs,n,lo,none,ty,kv,v⟩,[(k,0,none)]) else none
   | false=>none
  | some ⟨true,ty,.gro kd' xs lo (some h)⟩=>match inPl with
   | false=>if kd'=kd then some (⟨xs,n,lo,some h,ty,kv,v⟩,[(k,0,none)]) else none
   | true=>none
  | _=>none
 | _=>none
theorem groOf_inv {m:PM} {kd:IntKind} {inPl:Bool} {args:List SV} {x:GroA} {κ:List gL} (h:groOf m kd inPl args=some (x,κ)):
  ∃k,args=[.o (.a (.slg k x.n)),.o (.a (.v (.int x.k x.v)))]∧m k=some ⟨true,x.ty,.gro kd x.xs x.lo x.hi⟩∧x.hi.isNone=inPl∧κ=[(k,0,none)]:=by
 unfold groOf at h
 split at h<;>try cases h
 rename_i k n kv v
 split at h<;>try cases h
 ·rename_i ty kd' xs lo hm
  split at h<;>try cases h
  split at h<;>cases h
  rename_i hk
  subst hk
  exact⟨k,rfl,hm,rfl,rfl⟩
 ·rename_i ty kd' xs lo hh hm
  split at h<;>try cases h
  split at h<;>cases h
  rename_i hk
  subst hk
  exact⟨k,rfl,hm,rfl,rfl⟩
def Dec.gro (P:Program) (kd:IntKind) (inPl:Bool) (res:GroA→SV) (eff:GroA→dh) (pre:GroA→Cst)
  (good:∀x,match eff x with | .none=>False | .new _ row=>inPl=false∧row.ids=[] | .upd ty row=>inPl=true∧ty=x.ty∧row.ids=[]∧∀k∈(res x).ids,k=0):Dec P GroA where
 largs x:=[.o (.a (.slg 0 x.n)),.o (.a (.v (.int x.k x.v)))]
 lblks x:=[⟨inPl,x.ty,.gro kd x.xs x.lo x.hi⟩]
 res:=res
 eff:=eff
 pre:=pre
 inv x:=x.hi.isNone=inPl
 dec m args:=groOf m kd inPl args
 ok m args x κ h hc:=by
  obtain⟨k,rfl,hm,hh,rfl⟩:=groOf_inv h
  refine⟨hh,⟨?_,?_⟩,fun β=> ?_⟩
  ·intro i b hb
   cases i with
   | zero=>
    simp only[List.getElem?_cons_zero,Option.some.injEq] at hb
    subst hb
    exact⟨_,hm,rfl,.inl ⟨rfl,.inl ⟨rfl,rfl,fun _ _ _ h=>h,fun _=>rfl⟩⟩⟩
   | succ i=>simp at hb
  ·intro i j b c hb hc ho he
   cases i with
   | zero=>cases j with
    | zero=>rfl
    | succ j=>simp at hc
   | succ i=>simp at hb
  ·simp[SV.den,SV1.den,Atom.den,jg,Loc.at]
 sm m args x κ h i hi:=by
  obtain⟨k,rfl,hm,hh,rfl⟩:=groOf_inv h
  have hi0:i=0:=by simp at hi;exact hi
  subst hi0
  simp[hm]
 loc m m' args h hd:=by
  unfold groOf
  split
  ·rename_i k n kv v
   rw[h (.o (.a (.slg k n))) (by simp) k (by simp[SV.ids,SV1.ids,Atom.ids])]
  ·rfl
 ids x y hy k hk:=by
  simp only[List.mem_cons,List.not_mem_nil,or_false] at hy
  rcases hy with rfl | rfl
  ·simp only[SV.ids,SV1.ids,Atom.ids,List.mem_singleton] at hk
   subst hk
   simp
  ·cases hk
 good x:=by
  have hg:=good x
  generalize eff x=e at hg
  cases e with
  | none=>exact hg.elim
  | upd ty r=>exact⟨hg.2.2.2,hg.2.2.1,⟨_,rfl,hg.1,hg.2.1.symm⟩,fun i b hb=>by simp at hb⟩
  | new ty r=>exact⟨hg.2,fun b hb=>by simp at hb;rw[hb];exact hg.1⟩
def Con.or {P:Program} {G:Glob} (a b:Con P G) (hf:b.f=a.f) (hfr:∀m fr fr' args,a.spec m fr args=none→a.spec m fr' args=none):Con P G where
 f:=a.f
 spec m fr args:=match a.spec m fr args with
  | some r=>some r
  | none=>b.spec m fr args
 ok m fr args r e c N w0 β w h:=by
  split at h
  ·rename_i q hq
   cases h
   exact a.ok m fr args r e c N w0 β w hq
  ·have:=b.ok m fr args r e c N w0 β w h
   rw[hf] at this
   exact this
 loc m m' fr fr' args r e c hm hd h hn:=by
  split at h
  ·rename_i q hq
   cases h
   rw[a.loc m m' fr fr' args r e c hm hd hq hn]
  ·rename_i hq
   have hno:a.spec m' fr' args=none:=by
    cases hs:a.spec m' fr' args with
    | none=>rfl
    | some q=>
     obtain⟨r2,e2,c2⟩:=q
     have:=a.loc m' m fr' fr' args r2 e2 c2 (fun x hx k hk=>(hm x hx k hk).symm) (fun x hx k hk b hb j hj=>(hd x hx k hk b (by rw[←hm x hx k hk];exact hb) j hj).symm) hs (fun _=>rfl)
     rw[hfr m fr fr' args hq] at this
     cases this
   rw[hno]
   exact b.loc m m' fr fr' args r e c hm hd h hn
 upd m fr args r k row c h:=by
  split at h
  ·rename_i q hq
   cases h
   exact a.upd m fr args r k row c hq
  ·exact b.upd m fr args r k row c h
section
variable {G:Glob} {P:Program} {T:Ty} (hT:T.ok P) (f:FuncId) (fn:Func) (hf:P.funcs[f]? =some fn)
theorem Con.xU (h1:(fn.name== "runtime.NumGoroutine")=false) {c:Code} (hb:fn.body=some c) {ι:Type} (D:Dec P ι)
  (run:∀x,Holds (D.pre x)→D.inv x→aK P G (D.lblks x).length c (aH fn (D.largs x)) (D.lblks x) (aN T fn (bA (D.res x) (D.eff x)))):
  ∀m fr fr' args,(Con.hand (G:=G) hT f fn hf h1 hb D run).spec m fr args=none→(Con.hand (G:=G) hT f fn hf h1 hb D run).spec m fr' args=none:=by
 intro m fr fr' args h
 simp only[Con.hand] at h ⊢
 split
 ·rename_i x κ hx
  rw[hx] at h
  simp only at h
  split at h<;>cases h
 ·rfl
theorem Con.parts_fr (h1:(fn.name== "runtime.NumGoroutine")=false) {c:Code} (hb:fn.body=some c) (pks:List PK)
  (spec:List aV→Option (SV × dh × Cst)) (good:∀ps r e p,spec ps=some (r,e,p)→Holds p→GoodE ps r e)
  (run:∀ps r e p cap,spec ps=some (r,e,p)→Holds p→invAll cap 0 ps→aK P G (bG ps).length c (aH fn (uj cap 0 ps)) (bG ps) (aN T fn (bA r e))):
  ∀m fr fr' args,(Con.parts (G:=G) hT f fn hf h1 hb pks spec good run).spec m fr args=none→(Con.parts (G:=G) hT f fn hf h1 hb pks spec good run).spec m fr' args=none:=by
 intro m fr fr' args h
 simp only[Con.parts] at h ⊢
 cases hd:decL m [] pks args with
 | none=>rfl
 | some q=>
  obtain⟨ps,κ,c1⟩:=q
  rw[hd] at h
  simp only at h ⊢
  cases ha:apartL κ (bG ps) with
  | false=>rfl
  | true=>
   cases hs:spec ps with
   | none=>rfl
   | some q=>
    obtain⟨r,e,p⟩:=q
    rw[ha,hs] at h
    simp only at h ⊢
    cases e with
    | none=>cases h
    | upd ty row=>exact h
    | new ty row=>cases h
end
section
variable {G:Glob} {P:Program} {tm:List SV} {mem:List Blk} {Post:Ex→List SV→List Blk→Prop} {F:Nat}
end
section
variable {G:Glob} {P:Program} {Γ:Cons P G} {T:Ty} {c a b:Code} {tm tm':List SV} {mem mem':List Blk} {Post Post':Ex→List SV→List Blk→Prop} {F:Nat}
theorem Rel.setSlot {N:Nat} {w0:Base G} {tm:List SV} {mem mem':List Blk} {orc:Orc} {β:Nat→Loc} {a:Act} {w:World} (hr:Rel N w0 ⟨tm,mem,orc⟩ β a w) {j:Nat} {u v:SV} (hj:tm[j]? =some u) (hd:v.den β=u.den β) (hv:∀k∈v.ids,k∈u.ids)
  (hl:mem'.length=mem.length) (hm:bf N w0 (fun k=>mem'[k]?) β w):Rel N w0 ⟨tm.set j v,mem',orc⟩ β a w:=by
 refine⟨?_,hr.defers,hm,fun x hx k hk=> ?_⟩
 ·have ht:=hr.tmps
  simp only at ht ⊢
  rw[ht,List.map_set,hd]
  congr 1
  apply List.ext_getElem?
  intro i
  rw[List.getElem?_set]
  by_cases e:j=i
  ·subst e
   have hjl:j<(tm.map (SV.den β)).length:=by
    rw[List.length_map]
    rcases Nat.lt_or_ge j tm.length with h' | h'
    ·exact h'
    ·rw[List.getElem?_eq_none h'] at hj;cases hj
   rw[if_pos rfl,if_pos hjl,List.getElem?_map,hj]
   rfl
  ·rw[if_neg e]
 ·show k<mem'.length
  rw[hl]
  rcases List.mem_or_eq_of_mem_set hx with hx | rfl
  ·exact hr.ids x hx k hk
  ·exact hr.ids u (List.mem_of_getElem? hj) k (hv k hk)
theorem Runs.nameRoom (j k:Nat) {n:Nat} {own:Bool} {ty:TypeId} {s:Nat} {vs:List Value} {lo:Nat} {hi:Option Nat} (hj:tm[j]? =some (.o (.a (.slg k n)))) (hb:mem[k]? =some ⟨own,ty,.grv s vs lo hi⟩)
  (h:∀R,lo≤R→vs.length≤R*s→aK P G F c (tm.set j (.o (.a (.sld k 0 0 n R)))) (mem.set k ⟨own,ty,.grv s vs R (some (R+1))⟩) Post):aK P G F c tm mem Post:=by
 intro N w0 β ac w Q hF hr hQ
 have hk:k<mem.length:=by
  rcases Nat.lt_or_ge k mem.length with h' | h'
  ·exact h'
  ·rw[List.getElem?_eq_none h'] at hb;cases hb
 have hset:∀(r:Row) (j:Nat),(mem.set k ⟨own,ty,r⟩)[j]? =if j=k then some ({ (⟨own,ty,.grv s vs lo hi⟩:Blk) with row:=r }) else mem[j]? :=fun r j=>by
  rw[List.getElem?_set]
  by_cases e:k=j
  ·subst e;simp[hk]
  ·rw[if_neg e,if_neg (fun ee=>e ee.symm)]
 obtain⟨fr,pre,C,q1,q0,⟨tail,q2,q3,q4,q5⟩,q6⟩:=hr.mem.blk k _ hb
 refine h (β k).c q4 (by rw[←q3,q2,List.length_append];omega) N w0 β ac w Q hF (hr.setSlot hj (by simp[SV.den,SV1.den,Atom.den]) (fun i hi=>hi) (by simp) (hr.mem.row hb (hset _) ?_ (by intro j hj;cases hj))) hQ
 rintro C' ⟨t',p1,p2,p3,p4⟩
 exact⟨t',p1,p2,Nat.le_refl _,fun x hx=>by cases hx;exact Nat.lt_succ_self _⟩
theorem Runs.hideRoom (j k l:Nat) {n R:Nat} {own:Bool} {ty:TypeId} {s:Nat} {vs:List Value} (hj:tm[j]? =some (.o (.a (.sld k 0 0 n R)))) (hb:mem[k]? =some ⟨own,ty,.grv s vs R (some (R+1))⟩) (hl:l≤R)
  (h:aK P G F c (tm.set j (.o (.a (.slg k n)))) (mem.set k ⟨own,ty,.grv s vs l none⟩) Post):aK P G F c tm mem Post:=by
 intro N w0 β ac w Q hF hr hQ
 have hk:k<mem.length:=by
  rcases Nat.lt_or_ge k mem.length with h' | h'
  ·exact h'
  ·rw[List.getElem?_eq_none h'] at hb;cases hb
 have hset:∀(r:Row) (j:Nat),(mem.set k ⟨own,ty,r⟩)[j]? =if j=k then some ({ (⟨own,ty,.grv s vs R (some (R+1))⟩:Blk) with row:=r }) else mem[j]? :=fun r j=>by
  rw[List.getElem?_set]
  by_cases e:k=j
  ·subst e;simp[hk]
  ·rw[if_neg e,if_neg (fun ee=>e ee.symm)]
 obtain⟨fr,pre,C,q1,q0,⟨tail,q2,q3,q4,q5⟩,q6⟩:=hr.mem.blk k _ hb
 have hc:(β k).c=R:=by have:=q5 _ rfl;have:R≤(β k).c:=q4;omega
 refine h N w0 β ac w Q hF (hr.setSlot hj (by simp[SV.den,SV1.den,Atom.den,hc]) (fun i hi=>hi) (by simp) (hr.mem.row hb (hset _) ?_ (by intro j hj;cases hj))) hQ
 rintro C' ⟨t',p1,p2,p3,p4⟩
 exact⟨t',p1,p2,by omega,fun x hx=>by cases hx⟩
end
def Atom.mov (k b o:Nat):Atom→Atom
 | .sld _ b' o' n c=> .sld k b (o+(b'+o')) n c
 | x=>x
def SV1.mov (k b o:Nat):SV1→SV1
 | .a x=> .a (x.mov k b o)
 | .g cs=> .g (cs.map (Atom.mov k b o))
def SV.mov (k b o:Nat):SV→SV
 | .o x=> .o (x.mov k b o)
 | .t xs=> .t (xs.map (SV1.mov k b o))
def Atom.part:Atom→Bool
 | .sld 0 _ _ _ _=>true
 | x=>x.ids.isEmpty
def SV1.part:SV1→Bool
 | .a x=>x.part
 | .g cs=>cs.all Atom.part
def SV.part:SV→Bool
 | .o x=>x.part
 | .t xs=>xs.all SV1.part
theorem Atom.ug {β β':Nat→Loc} {k b o:Nat} (h0:(β' 0).a=(β k).a) (h1:(β' 0).s=(β k).s+(b+o)):∀(x:Atom),x.part=true→x.den β'=(x.mov k b o).den β:=fun x hx=>by
 unfold Atom.part at hx
 split at hx
 ·simp[Atom.mov,Atom.den,Loc.at,h0,h1,Nat.add_assoc]
 ·have e:x.mov k b o=x:=by
   unfold Atom.mov
   split
   ·simp[Atom.ids] at hx
   ·rfl
  rw[e]
  exact Ak x fun i hi=>by rw[List.isEmpty_iff.1 hx] at hi;cases hi
theorem SV1.ug {β β':Nat→Loc} {k b o:Nat} (h0:(β' 0).a=(β k).a) (h1:(β' 0).s=(β k).s+(b+o)) (x:SV1) (hx:x.part=true):x.den β'=(x.mov k b o).den β:=by
 cases x with
 | a x=>exact Atom.ug h0 h1 x hx
 | g cs=>
  simp only[SV1.den,SV1.mov,List.map_map]
  congr 2
  exact List.map_congr_left fun c hc=>Atom.ug h0 h1 c (List.all_eq_true.1 hx c hc)
theorem SV.ug {β β':Nat→Loc} {k b o:Nat} (h0:(β' 0).a=(β k).a) (h1:(β' 0).s=(β k).s+(b+o)) (x:SV) (hx:x.part=true):x.den β'=(x.mov k b o).den β:=by
 cases x with
 | o x=>exact SV1.ug h0 h1 x hx
 | t xs=>
  simp only[SV.den,SV.mov,List.map_map]
  congr 2
  exact List.map_congr_left fun c hc=>SV1.ug h0 h1 c (List.all_eq_true.1 hx c hc)
theorem Atom.uf {k b o:Nat}:∀(x:Atom),x.part=true→∀i∈(x.mov k b o).ids,i=k:=fun x hx i hi=>by
 unfold Atom.part at hx
 split at hx
 ·simpa [Atom.mov,Atom.ids] using hi
 ·have e:x.mov k b o=x:=by
   unfold Atom.mov
   split
   ·simp[Atom.ids] at hx
   ·rfl
  rw[e,List.isEmpty_iff.1 hx] at hi
  cases hi
theorem SV1.uf {k b o:Nat} (x:SV1) (hx:x.part=true):∀i∈(x.mov k b o).ids,i=k:=fun i hi=>by
 cases x with
 | a x=>exact Atom.uf x hx i hi
 | g cs=>
  obtain⟨c,hc,h⟩:=oG hi
  obtain⟨d,hd,rfl⟩:=List.mem_map.1 hc
  exact Atom.uf d (List.all_eq_true.1 hx d hd) i h
theorem idsT_mem {xs:List SV1} {k:Nat} (h:k∈idsT xs):∃x∈xs,k∈x.ids:=by
 induction xs with
 | nil=>cases h
 | cons d r ih=>
  simp only[idsT,List.mem_append] at h
  rcases h with h | h
  ·exact⟨d,by simp,h⟩
  ·obtain⟨c,hc,hk⟩:=ih h;exact⟨c,by simp[hc],hk⟩
theorem SV.uf {k b o:Nat} (x:SV) (hx:x.part=true):∀i∈(x.mov k b o).ids,i=k:=fun i hi=>by
 cases x with
 | o x=>exact SV1.uf x hx i hi
 | t xs=>
  obtain⟨c,hc,h⟩:=idsT_mem hi
  obtain⟨d,hd,rfl⟩:=List.mem_map.1 hc
  exact SV1.uf d (List.all_eq_true.1 hx d hd) i h
def Con.win {G:Glob} {P:Program} {T:Ty} (hT:T.ok P) (f:FuncId) (fn:Func) (hf:P.funcs[f]? =some fn) (h1:(fn.name== "runtime.NumGoroutine")=false) {c:Code} (hb:fn.body=some c) (s:Nat)
  (spec:List Value→Nat→Nat→List SV→Option (SV × Cst)) (good:∀ys n cp rest r p,spec ys n cp rest=some (r,p)→r.part=true)
  (run:∀ys n cp ty rest r p,spec ys n cp rest=some (r,p)→Holds p→ys.length=n*s→n≤cp→(rest.all fun x=>x.ids.isEmpty)=true→
   aK P G 1 c (aH fn (.o (.a (.sld 0 0 0 n cp))::rest)) [⟨false,ty,.prv ys⟩] (aN T fn (bA r .none))):Con P G where
 f:=f
 spec:=fun m _ args=>match args with
  | .o (.a (.sld k b o n cp))::rest=>match rest.all fun x=>x.ids.isEmpty,m k with
   | true,some bl=>match bl.row.valsL with
    | some vs=>match spec ((vs.drop (b+o)).take (n*s)) n cp rest with
     | some (r,p)=>some (r.mov k b o,.none,(b+o+n*s≤vs.length)::(n≤cp)::p)
     | none=>none
    | none=>none
   | _,_=>none
  | _=>none
 ok:=fun m fr args r' e' cs N w0 β w h hc hm hf0 hids=>by
  refine .inl ⟨pK hf h1 (by rw[hb];rfl) _ w,?_⟩
  split at h<;>try cases h
  rename_i k b o n cp rest
  split at h<;>try cases h
  rename_i bl hrest hbl
  split at h<;>try cases h
  rename_i vs hvs
  split at h<;>cases h
  rename_i r p hsp
  obtain⟨hle,hcap,hp⟩:=hc
  have hlen:((vs.drop (b+o)).take (n*s)).length=n*s:=by rw[List.length_take,List.length_drop];omega
  have hh:Hand m (fun _=>k) (fun _=>b+o) (fun _=>some cp) [⟨false,bl.ty,.prv ((vs.drop (b+o)).take (n*s))⟩]:=by
   refine⟨fun i b' hb'=> ?_,fun i j b' c' hb' hc' ho=> ?_⟩
   ·cases i with
    | zero=>
     simp only[List.getElem?_cons_zero,Option.some.injEq] at hb'
     subst hb'
     refine⟨bl,hbl,rfl,.inl ⟨rfl,.inr (.inr ⟨rfl,fun β n' C hC=> ?_⟩)⟩⟩
     obtain⟨tail,rfl⟩:=Row.valsL_spec hvs β n' C hC
     refine⟨vs.take (b+o),vs.drop (b+o)++tail,by rw[←List.append_assoc,List.take_append_drop],by rw[List.length_take];omega,fun n''=>⟨((vs.drop (b+o)).drop (n*s))++tail,?_⟩⟩
     rw[←List.append_assoc,List.take_append_drop]
    | succ i=>simp at hb'
   ·cases i with
    | zero=>simp only[List.getElem?_cons_zero,Option.some.injEq] at hb';subst hb';cases ho
    | succ i=>simp at hb'
  have e0:(jg β (fun _=>k) (fun _=>b+o) (fun _=>some cp) 0).a=(β k).a:=rfl
  have e1:(jg β (fun _=>k) (fun _=>b+o) (fun _=>some cp) 0).s=(β k).s+(b+o):=rfl
  have hargs:(SV.o (.a (.sld k b o n cp))::rest).map (SV.den β)=(SV.o (.a (.sld 0 0 0 n cp))::rest).map (SV.den (jg β (fun _=>k) (fun _=>b+o) (fun _=>some cp))):=by
   have q1:(SV.o (.a (.sld k b o n cp))).den β=(SV.o (.a (.sld 0 0 0 n cp))).den (jg β (fun _=>k) (fun _=>b+o) (fun _=>some cp)):=by
    simp[SV.den,SV1.den,Atom.den,Loc.at,e0,e1]
   have q2:rest.map (SV.den β)=rest.map (SV.den (jg β (fun _=>k) (fun _=>b+o) (fun _=>some cp))):=List.map_congr_left fun x hx=>iD x fun i hi=>by
    have:=List.all_eq_true.1 hrest x hx
    rw[List.isEmpty_iff.1 this] at hi
    cases hi
   rw[List.map_cons,List.map_cons,q1,q2]
  rw[hargs]
  refine(yY hT hf hb hh hm (fun x hx i hi=> ?_) (run _ _ _ _ _ _ _ hsp hp hlen hcap hrest)).mono ?_
  ·rcases List.mem_cons.1 hx with rfl | hx
   ·simp only[SV.ids,SV1.ids,Atom.ids,List.mem_singleton] at hi
    subst hi
    simp
   ·have:=List.all_eq_true.1 hrest x hx
    rw[List.isEmpty_iff.1 this] at hi
    cases hi
  ·rintro en w' ⟨β',rr,m',hq,rfl,hβ,hm'⟩
   have hq:rr=r:=hq
   subst hq
   have hg:=good _ _ _ _ _ _ hsp
   have h0:=hβ 0 Nat.zero_lt_one
   refine⟨β,?_,fun _ _=>rfl,(wV hm (by intro b' hb';simp only[List.mem_singleton] at hb';rw[hb']) hm').1,fun i hi=> ?_⟩
   ·exact congrArg Ending.returned (SV.ug (by rw[h0];rfl) (by rw[h0];rfl) rr hg)
   ·have:=SV.uf rr hg i hi
    subst this
    show(m i).isSome=true
    rw[hbl];rfl
 loc:=fun m m' fr fr' args r e c hm hd h hn=>by
  split at h<;>try cases h
  rename_i k b o n cp rest
  have hk:m' k=m k:=hm _ (List.mem_cons_self) k (by simp[SV.ids,SV1.ids,Atom.ids])
  simp only[hk]
  exact h
 upd:=fun m fr args r k row c h=>by
  split at h<;>try cases h
  split at h<;>try cases h
  split at h<;>try cases h
  split at h<;>cases h
section
variable {G:Glob} {P:Program} {Γ:Cons P G} {T:Ty} {ops:List Oper} {tm0:List SV} {aS:List Blk} {E:List Ent} {idE m:Nat}
variable (hT:T.ok P) {N:Nat} {w0:Base G}
include hT
end
structure CloP (α:Type) where
 pick:List SV→Option (Nat × Nat × α)
 largs:α→List SV
 ids:∀a,∀x∈largs a,∀k∈x.ids,k<2
 den:∀args k0 k1 a,pick args=some (k0,k1,a)→(∃x∈args,k0∈x.ids)∧(∃x∈args,k1∈x.ids)∧∀β β':Nat→Loc,(β' 0).a=(β k0).a→(β' 0).s=(β k0).s→(β' 1).a=(β k1).a→(β' 1).s=(β k1).s→args.map (SV.den β)=(largs a).map (SV.den β')
def CloP.lit:CloP Int where
 pick
  | [.o (.a (.v (.int .i64 i))),.o (.a (.ptr k0 0)),.o (.a (.ptr k1 0))]=>some (k0,k1,i)
  | _=>none
 largs i:=[.o (.a (.v (.int .i64 i))),.o (.a (.ptr 0 0)),.o (.a (.ptr 1 0))]
 ids a x hx k hk:=by
  simp only[List.mem_cons,List.not_mem_nil,or_false] at hx
  rcases hx with rfl | rfl | rfl
  ·cases hk
  ·simp only[SV.ids,SV1.ids,Atom.ids,List.mem_singleton] at hk;omega
  ·simp only[SV.ids,SV1.ids,Atom.ids,List.mem_singleton] at hk;omega
 den args k0 k1 a h:=by
  split at h<;>cases h
  refine⟨⟨.o (.a (.ptr k0 0)),by simp,by simp[SV.ids,SV1.ids,Atom.ids]⟩,⟨.o (.a (.ptr k1 0)),by simp,by simp[SV.ids,SV1.ids,Atom.ids]⟩,fun β β' h0 h1 h2 h3=> ?_⟩
  simp[SV.den,SV1.den,Atom.den,Loc.at,h0,h1,h2,h3]
def CloP.fn (g:Nat):CloP Int where
 pick
  | [.o (.a (.v (.int .i64 i))),.o (.a (.fn f [(k0,0),(k1,0)]))]=>if f=g then some (k0,k1,i) else none
  | _=>none
 largs i:=[.o (.a (.v (.int .i64 i))),.o (.a (.fn g [(0,0),(1,0)]))]
 ids a x hx k hk:=by
  simp only[List.mem_cons,List.not_mem_nil,or_false] at hx
  rcases hx with rfl | rfl
  ·cases hk
  ·simp only[SV.ids,SV1.ids,Atom.ids,List.map_cons,List.map_nil,List.mem_cons,List.not_mem_nil,or_false] at hk;omega
 den args k0 k1 a h:=by
  split at h<;>try cases h
  split at h<;>cases h
  rename_i hg
  subst hg
  refine⟨⟨_,List.mem_cons_of_mem _ (List.mem_singleton.2 rfl),by simp[SV.ids,SV1.ids,Atom.ids]⟩,⟨_,List.mem_cons_of_mem _ (List.mem_singleton.2 rfl),by simp[SV.ids,SV1.ids,Atom.ids]⟩,fun β β' h0 h1 h2 h3=> ?_⟩
  simp[SV.den,SV1.den,Atom.den,Loc.at,h0,h1,h2,h3]
structure Cod (α:Type) where
 enc:α→SV
 dec:SV→Option α
 ok:∀x a,dec x=some a→enc a=x
 ids:∀a,(enc a).ids=[]
def Cod.row {α:Type} (c:Cod α) (a:α):List Atom:=match c.enc a with
 | .o (.g cs)=>cs
 | _=>[]
def oP (k:IntKind):List Atom→Option (List Int)
 | []=>some []
 | .v (.int j n)::r=>if j=k then
   match oP k r with
   | some l=>some (n::l)
   | none=>none
  else none
 | _=>none
theorem kI {k:IntKind}:∀{cs:List Atom} {l:List Int},oP k cs=some l→l.map (aB k)=cs
 | [],l,h=>by simp only[oP] at h;cases h;rfl
 | c::r,l,h=>by
  unfold oP at h
  split at h<;>try cases h
  ·rename_i e;cases e
  ·rename_i j n r' e
   obtain⟨rfl,rfl⟩:=List.cons.inj e
   split at h<;>try cases h
   rename_i hk
   subst hk
   split at h<;>try cases h
   rename_i l' hl
   simp[kI hl]
theorem iy (k:IntKind) (l:List Int):bB (l.map (aB k))=[]:=by
 induction l<;>simp_all [bB,Atom.ids]
def av (k:IntKind):Cod Int where
 enc n:= .o (.a (aB k n))
 dec
  | .o (.a (.v (.int j n)))=>if j=k then some n else none
  | _=>none
 ok x a h:=by
  split at h<;>try cases h
  split at h<;>try cases h
  rename_i hk;subst hk;rfl
 ids _:=rfl
def aY:Cod Bool where
 enc b:= .o (.a (iO b))
 dec
  | .o (.a (.v (.bool b)))=>some b
  | _=>none
 ok x a h:=by
  split at h<;>cases h
  rfl
 ids _:=rfl
def cRow {α:Type} (k:IntKind) (to:α→List Int) (of:List Int→Option α) (h:∀l a,of l=some a→to a=l):Cod α where
 enc a:= .o (.g ((to a).map (aB k)))
 dec
  | .o (.g cs)=>match oP k cs with
   | some l=>of l
   | none=>none
  | _=>none
 ok x a hx:=by
  split at hx<;>try cases hx
  split at hx<;>try cases hx
  rename_i l hl
  rw[h l a hx,kI hl]
 ids a:=iy k (to a)
structure E5 where
 l0:Int
 l1:Int
 l2:Int
 l3:Int
 l4:Int
structure N4 where
 l0:Int
 l1:Int
 l2:Int
 l3:Int
structure W2 where
 hi:Int
 lo:Int
def E5.to (e:E5):List Int:=[e.l0,e.l1,e.l2,e.l3,e.l4]
def E5.of:List Int→Option E5
 | [a,b,c,d,e]=>some ⟨a,b,c,d,e⟩
 | _=>none
def N4.to (e:N4):List Int:=[e.l0,e.l1,e.l2,e.l3]
def N4.of:List Int→Option N4
 | [a,b,c,d]=>some ⟨a,b,c,d⟩
 | _=>none
def W2.to (e:W2):List Int:=[e.hi,e.lo]
def W2.of:List Int→Option W2
 | [a,b]=>some ⟨a,b⟩
 | _=>none
theorem E5.iV:∀l a,E5.of l=some a→E5.to a=l:=by
 intro l a h
 unfold E5.of at h
 split at h<;>cases h
 rfl
theorem N4.iV:∀l a,N4.of l=some a→N4.to a=l:=by
 intro l a h
 unfold N4.of at h
 split at h<;>cases h
 rfl
theorem W2.iV:∀l a,W2.of l=some a→W2.to a=l:=by
 intro l a h
 unfold W2.of at h
 split at h<;>cases h
 rfl
def cE5:Cod E5:=cRow .u64 E5.to E5.of E5.iV
def cN4:Cod N4:=cRow .u64 N4.to N4.of N4.iV
def cW2:Cod W2:=cRow .u64 W2.to W2.of W2.iV
structure B32 where
 b0:Int
 b1:Int
 b2:Int
 b3:Int
 b4:Int
 b5:Int
 b6:Int
 b7:Int
 b8:Int
 b9:Int
 b10:Int
 b11:Int
 b12:Int
 b13:Int
 b14:Int
 b15:Int
 b16:Int
 b17:Int
 b18:Int
 b19:Int
 b20:Int
 b21:Int
 b22:Int
 b23:Int
 b24:Int
 b25:Int
 b26:Int
 b27:Int
 b28:Int
 b29:Int
 b30:Int
 b31:Int
def B32.at (x:B32):Nat→Int
 | 0=>x.b0
 | 1=>x.b1
 | 2=>x.b2
 | 3=>x.b3
 | 4=>x.b4
 | 5=>x.b5
 | 6=>x.b6
 | 7=>x.b7
 | 8=>x.b8
 | 9=>x.b9
 | 10=>x.b10
 | 11=>x.b11
 | 12=>x.b12
 | 13=>x.b13
 | 14=>x.b14
 | 15=>x.b15
 | 16=>x.b16
 | 17=>x.b17
 | 18=>x.b18
 | 19=>x.b19
 | 20=>x.b20
 | 21=>x.b21
 | 22=>x.b22
 | 23=>x.b23
 | 24=>x.b24
 | 25=>x.b25
 | 26=>x.b26
 | 27=>x.b27
 | 28=>x.b28
 | 29=>x.b29
 | 30=>x.b30
 | _=>x.b31
def B32.mk' (f:Nat→Int):B32:=⟨f 0,f 1,f 2,f 3,f 4,f 5,f 6,f 7,f 8,f 9,f 10,f 11,f 12,f 13,f 14,f 15,f 16,f 17,f 18,f 19,f 20,f 21,f 22,f 23,f 24,f 25,f 26,f 27,f 28,f 29,f 30,f 31⟩
def B32.to (x:B32):List Int:=[x.b0,x.b1,x.b2,x.b3,x.b4,x.b5,x.b6,x.b7,x.b8,x.b9,x.b10,x.b11,x.b12,x.b13,x.b14,x.b15,x.b16,x.b17,x.b18,x.b19,x.b20,x.b21,x.b22,x.b23,x.b24,x.b25,x.b26,x.b27,x.b28,x.b29,x.b30,x.b31]
def B32.of:List Int→Option B32
 | [a0,a1,a2,a3,a4,a5,a6,a7,a8,a9,a10,a11,a12,a13,a14,a15,a16,a17,a18,a19,a20,a21,a22,a23,a24,a25,a26,a27,a28,a29,a30,a31]=>some ⟨a0,a1,a2,a3,a4,a5,a6,a7,a8,a9,a10,a11,a12,a13,a14,a15,a16,a17,a18,a19,a20,a21,a22,a23,a24,a25,a26,a27,a28,a29,a30,a31⟩
 | _=>none
theorem B32.iV:∀l a,B32.of l=some a→B32.to a=l:=by
 intro l a h
 unfold B32.of at h
 split at h<;>cases h
 rfl
def ak:Cod B32:=cRow .u8 B32.to B32.of B32.iV
section
variable {P:Program} {G:Glob} {α β γ δ:Type}
section
variable (f:FuncId) (fn:Func) (hf:P.funcs[f]? =some fn)
def con0 (h1:(fn.name== "runtime.NumGoroutine")=false) (h2:fn.body.isNone=false) (r:SV) (pre:Cst) (ids:r.ids=[])
  (run:Holds pre→ay P G f [] r):Con P G:=
 Con.of f fn hf h1 h2 (fun | []=>some (r,pre) | _=>none) fun args r' c h=>by
  split at h<;>cases h
  exact⟨ids,run⟩
def fQ (h1:(fn.name== "runtime.NumGoroutine")=false) (h2:fn.body.isNone=false) (ca:Cod α) (F:α→SV) (pre:α→Cst)
  (ids:∀a,(F a).ids=[]) (run:∀a,Holds (pre a)→ay P G f [ca.enc a] (F a)):Con P G:=
 Con.of f fn hf h1 h2 (fun
  | [x]=>match ca.dec x with
   | some a=>some (F a,pre a)
   | none=>none
  | _=>none) fun args r c h=>by
  split at h<;>try cases h
  split at h<;>try cases h
  rename_i ha
  rw[←ca.ok _ _ ha]
  exact⟨ids _,run _⟩
def jA (h1:(fn.name== "runtime.NumGoroutine")=false) (h2:fn.body.isNone=false) (ca:Cod α) (cb:Cod β) (F:α→β→SV) (pre:α→β→Cst)
  (ids:∀a b,(F a b).ids=[]) (run:∀a b,Holds (pre a b)→ay P G f [ca.enc a,cb.enc b] (F a b)):Con P G:=
 Con.of f fn hf h1 h2 (fun
  | [x,y]=>match ca.dec x,cb.dec y with
   | some a,some b=>some (F a b,pre a b)
   | _,_=>none
  | _=>none) fun args r c h=>by
  split at h<;>try cases h
  split at h<;>try cases h
  rename_i ha hb
  rw[←ca.ok _ _ ha,←cb.ok _ _ hb]
  exact⟨ids _ _,run _ _⟩
def con3 (h1:(fn.name== "runtime.NumGoroutine")=false) (h2:fn.body.isNone=false) (ca:Cod α) (cb:Cod β) (cc:Cod γ) (F:α→β→γ→SV) (pre:α→β→γ→Cst)
  (ids:∀a b c,(F a b c).ids=[]) (run:∀a b c,Holds (pre a b c)→ay P G f [ca.enc a,cb.enc b,cc.enc c] (F a b c)):Con P G:=
 Con.of f fn hf h1 h2 (fun
  | [x,y,z]=>match ca.dec x,cb.dec y,cc.dec z with
   | some a,some b,some c=>some (F a b c,pre a b c)
   | _,_,_=>none
  | _=>none) fun args r c h=>by
  split at h<;>try cases h
  split at h<;>try cases h
  rename_i ha hb hc
  rw[←ca.ok _ _ ha,←cb.ok _ _ hb,←cc.ok _ _ hc]
  exact⟨ids _ _ _,run _ _ _⟩
end
end
abbrev u64 (n:Int):Atom:=aB .u64 n
abbrev u8 (n:Int):Atom:=aB .u8 n
def aT (a b:Int):Int:=IntKind.u64.wrap (a+b)
def subU (a b:Int):Int:=IntKind.u64.wrap (a-b)
def aG (a b:Int):Int:=IntKind.u64.wrap (a*b)
def gu (a b:Int):Int:=bits .and .u64 a b
def orU (a b:Int):Int:=bits .or .u64 a b
def eB (a:Int) (n:Nat):Int:=a.fdiv (2^n)
def shlU (a:Int) (n:Nat):Int:=IntKind.u64.wrap (a*2^n)
open Go Go.RowKit
theorem itmsOf_v {m:PM} {kd:IntKind}:∀(cs:List Atom) {its:List Itm} {qs:List gL},kR m kd cs=some (its,qs)→∀a,Itm.v a∈its→∃p c,a= .slice p 0 c
 | [],its,qs,h,a,ha=>by
  simp only[kR,Option.some.injEq,Prod.mk.injEq] at h
  obtain⟨rfl,rfl⟩:=h
  cases ha
 | x::r,its,qs,h,a,ha=>by
  unfold kR at h
  split at h<;>try cases h
  rename_i its' qs' hr
  split at h
  ·rename_i p c
   cases h
   rcases List.mem_cons.1 ha with hq | hq
   ·cases hq
    exact⟨p,c,rfl⟩
   ·exact itmsOf_v r hr a hq
  ·split at h<;>cases h
   rcases List.mem_cons.1 ha with hq | hq
   ·cases hq
   ·exact itmsOf_v r hr a hq
def Dec.listV (P:Program) (kd:IntKind) (shp:List Bool) (res:List (List Int)→SV) (eff:List (List Int)→dh) (pre:List (List Int)→Cst)
  (good:∀ls,match eff ls with | .none=>(res ls).ids=[] | .new _ row=>row.ids=[] | .upd _ _=>False):Dec P LstA:=
 { Dec.list P kd shp res eff pre good with
  inv:=fun x=>(Dec.list P kd shp res eff pre good).inv x∧∀a,Itm.v a∈x.its→∃p c,a= .slice p 0 c
  ok:=fun m args x κ h hc=>by
   obtain⟨h1,h2⟩:=(Dec.list P kd shp res eff pre good).ok m args x κ h hc
   refine⟨⟨h1,?_⟩,h2⟩
   obtain⟨k,own,cs,qs,_,_,hi,_⟩:=Aa (show lstOf m kd shp args=some (x,κ) from h)
   exact itmsOf_v cs hi }
theorem oh {its:List Itm} {r:List Bool} (h:oM its=true::r):∃a t,its= .w a::t∧oM t=r:=by
 cases its with
 | nil=>cases h
 | cons x t=>
  simp only[oM,List.cons.injEq] at h
  cases x with
  | w a=>exact⟨a,t,rfl,h.2⟩
  | v a=>cases h.1
theorem shp_n {its:List Itm} (h:oM its=[]):its=[]:=by
 cases its with
 | nil=>rfl
 | cons x t=>cases h
def aZ:List (List Int)→List Int
 | []=>[]
 | y::r=>y++aZ r
theorem dt0 (y:List Int) (n:Nat) (h:y.length=n):(y.drop 0).take n=y:=by rw[List.drop_zero,List.take_of_length_le (by omega)]
structure ArrA (α:Type) where
 a:α
 ty:TypeId
def arrOf {α:Type} (m:PM) (de:List Atom→Option α) (nel:Nat) (args:List SV):Option (ArrA α × List gL):=
 match args with
 | [.o (.a (.slc k 0 n c))]=>match Nat.beq c n&&Nat.beq n nel,m k with
  | true,some ⟨_,ty,.lit cs⟩=>match de cs with
   | some a=>some (⟨a,ty⟩,[(k,0,none)])
   | none=>none
  | _,_=>none
 | _=>none
theorem arrOf_inv {α:Type} {m:PM} {de:List Atom→Option α} {nel:Nat} {args:List SV} {x:ArrA α} {κ:List gL} (h:arrOf m de nel args=some (x,κ)):
  ∃k own cs,args=[.o (.a (.slc k 0 nel nel))]∧m k=some ⟨own,x.ty,.lit cs⟩∧de cs=some x.a∧κ=[(k,0,none)]:=by
 unfold arrOf at h
 split at h<;>try cases h
 rename_i k n c
 split at h<;>try cases h
 rename_i own ty cs hcn hm
 split at h<;>cases h
 rename_i a ha
 rw[Bool.and_eq_true] at hcn
 obtain rfl:=Nat.eq_of_beq_eq_true hcn.2
 obtain rfl:=Nat.eq_of_beq_eq_true hcn.1
 exact⟨k,own,cs,rfl,hm,ha,rfl⟩
def Dec.arr (P:Program) {α:Type} (de:List Atom→Option α) (en:α→List Atom) (hde:∀cs a,de cs=some a→cs=en a) (hen:∀a,bB (en a)=[]) (nel:Nat) (res:α→SV) (pre:α→Cst) (hids:∀a,(res a).ids=[]):Dec P (ArrA α) where
 largs x:=[.o (.a (.slc 0 0 nel nel))]
 lblks x:=[⟨false,x.ty,.lit (en x.a)⟩]
 res x:=res x.a
 eff _:= .none
 pre x:=pre x.a
 inv x:=True
 dec m args:=arrOf m de nel args
 ok m args x κ h hc:=by
  obtain⟨k,own,cs,rfl,hm,hd,rfl⟩:=arrOf_inv h
  obtain rfl:=hde _ _ hd
  refine⟨trivial,⟨?_,?_⟩,fun β=> ?_⟩
  ·intro i b hb
   cases i with
   | zero=>
    simp only[List.getElem?_cons_zero,Option.some.injEq] at hb
    subst hb
    exact⟨_,hm,rfl,.inl ⟨hen _,.inl ⟨rfl,rfl,fun β n C hC=>hC,fun ho=>by cases ho⟩⟩⟩
   | succ i=>simp at hb
  ·intro i j b c hb hc ho
   cases i with
   | zero=>simp at hb;rw[←hb] at ho;cases ho
   | succ i=>simp at hb
  ·simp[SV.den,SV1.den,Atom.den,jg,Loc.at]
 sm m args x κ h i hi:=by
  obtain⟨k,own,cs,rfl,hm,hd,rfl⟩:=arrOf_inv h
  have hi0:i=0:=by simp at hi;exact hi
  subst hi0
  simp[hm]
 loc m m' args h _:=by
  unfold arrOf
  split
  ·rename_i k n c0 _
   have hk:m' k=m k:=h (.o (.a (.slc k 0 n c0))) (by simp) k (by simp[SV.ids,SV1.ids,Atom.ids])
   rw[hk]
  ·rfl
 ids x y hy k hk:=by
  simp only[List.mem_singleton] at hy
  subst hy
  simp only[SV.ids,SV1.ids,Atom.ids,List.mem_singleton] at hk
  subst hk
  simp
 good x:=⟨hids _,fun b hb=>by simp at hb;rw[hb]⟩
end Go.Eng
