/- The executor: contracts of callees that are handed a list of slices; blocks of the arguments, opened one by one. -/
import Derived.Test.YtdccehmekkcheaaDoorCEngY
set_option linter.unusedSimpArgs false
set_option linter.unusedVariables false
namespace Go.Eng
open Go.RowKit
inductive Itm where
 | w (x:Win)
 | v (a:Value)
def Itm.ys:Itm→List Int
 | .w x=>x.ys
 | .v _=>[]
def Itm.isW:Itm→Bool
 | .w _=>true
 | .v _=>false
def jv:List Itm→List Win
 | []=>[]
 | .w x::r=>x::jv r
 | .v _::r=>jv r
def cstI:List Itm→Cst
 | []=>[]
 | .w x::r=>x.cst++cstI r
 | .v _::r=>cstI r
def qb:List Itm→List Bool
 | []=>[]
 | x::r=>x.isW::qb r
def ysI:List Itm→List (List Int)
 | []=>[]
 | x::r=>x.ys::ysI r
def locI:Nat→List Itm→List Atom
 | _,[]=>[]
 | i,.w x::r=> .slg i x.n::locI (i+1) r
 | i,.v a::r=> .v a::locI i r
def bl2:List Bool→List Bool→Bool
 | [],[]=>true
 | true::r,true::s=>bl2 r s
 | false::r,false::s=>bl2 r s
 | _,_=>false
theorem bl2_eq:∀{a b:List Bool},bl2 a b=true→a=b
 | [],[],_=>rfl
 | true::r,true::s,h=>by rw[bl2_eq (a:=r) (b:=s) h]
 | false::r,false::s,h=>by rw[bl2_eq (a:=r) (b:=s) h]
 | [],_::_,h=>by simp[bl2] at h
 | _::_,[],h=>by simp[bl2] at h
 | true::_,false::_,h=>by simp[bl2] at h
 | false::_,true::_,h=>by simp[bl2] at h
def jN (m:PM) (kd:IntKind):List Atom→Option (List Itm × List fG)
 | []=>some ([],[])
 | a::r=>match jN m kd r with
  | some (its,qs)=>match a with
   | .v (.slice p 0 c)=>some (.v (.slice p 0 c)::its,qs)
   | a=>match mg m kd (.o (.a a)) with
    | some (x,q)=>some (.w x::its,q::qs)
    | none=>none
  | none=>none
def ItmOk (m:PM) (kd:IntKind) (x:Win) (q:fG):Prop:=
 x.ys.length=x.n∧∃bm base xs o,m q.1=some bm∧bm.ty=x.ty∧bm.row.ints base=some (kd,xs)∧q.2.1=base+o∧o+x.ys.length≤xs.length∧x.ys=(xs.drop o).take x.ys.length
theorem sK {m:PM} {kd:IntKind}:∀(cs:List Atom) (i:Nat) {its:List Itm} {qs:List fG} (_:jN m kd cs=some (its,qs)) (_:Holds (cstI its)),
  qs.length=(jv its).length∧(∀(j:Nat) (x:Win),(jv its)[j]? =some x→∃q,qs[j]? =some q∧ItmOk m kd x q)∧
  ∀(β:Nat→Loc) (κ σ:Nat→Nat) (χ:Nat→Option Nat),(∀(j:Nat) (q:fG),qs[j]? =some q→κ (i+j)=q.1∧σ (i+j)=q.2.1∧χ (i+j)=q.2.2)→cs.map (Atom.den β)=(locI i its).map (Atom.den (gB β κ σ χ))
 | [],i,its,qs,h,hc=>by
  simp only[jN,Option.some.injEq,Prod.mk.injEq] at h
  obtain⟨rfl,rfl⟩:=h
  exact⟨rfl,fun j x hx=>by simp[jv] at hx,fun _ _ _ _ _=>rfl⟩
 | a::r,i,its,qs,h,hc=>by
  unfold jN at h
  split at h<;>try cases h
  rename_i its' qs' hr
  split at h
  ·rename_i p c
   cases h
   obtain⟨h1,h2,h3⟩:=sK r i hr hc
   exact⟨h1,h2,fun β κ σ χ hk=>by simp only[List.map_cons,locI];rw[h3 β κ σ χ hk];rfl⟩
  ·split at h<;>cases h
   rename_i x q hw
   obtain⟨hc1,hc2⟩:=aV hc
   obtain⟨h1,h2,h3⟩:=sK r (i+1) hr hc2
   obtain⟨g1,g2,g3,g4⟩:=tQ hw hc1
   refine⟨by simp[jv,h1],fun j y hy=> ?_,fun β κ σ χ hk=> ?_⟩
   ·cases j with
    | zero=>simp only[jv,List.getElem?_cons_zero,Option.some.injEq] at hy;subst hy;exact⟨q,rfl,g1,g3⟩
    | succ j=>exact h2 j y (by simpa [jv] using hy)
   ·simp only[List.map_cons,locI]
    rw[h3 β κ σ χ fun j q' hq=>by have:=hk (j+1) q' (by simpa using hq);rwa [show i+1+j=i+(j+1) by omega]]
    congr 1
    obtain⟨k1,k2,k3⟩:=hk 0 q rfl
    have:=g4 β
    rw[show SV.den β (.o (.a a))=a.den β from rfl] at this
    rw[this]
    simp only[Atom.den,gB,Nat.add_zero] at k1 k2 k3 ⊢
    rw[k1,k2,k3]
theorem uz {m:PM} {kd:IntKind}:∀(cs:List Atom) {its:List Itm} {qs:List fG},jN m kd cs=some (its,qs)→∀q∈qs,(m q.1).isSome=true
 | [],its,qs,h,q,hq=>by
  simp only[jN,Option.some.injEq,Prod.mk.injEq] at h
  obtain⟨rfl,rfl⟩:=h
  cases hq
 | a::r,its,qs,h,q,hq=>by
  unfold jN at h
  split at h<;>try cases h
  rename_i its' qs' hr
  split at h
  ·cases h
   exact uz r hr q hq
  ·split at h<;>cases h
   rename_i x q' hw
   rcases List.mem_cons.1 hq with rfl | hq
   ·unfold mg at hw
    split at hw<;>try cases hw
    split at hw<;>try cases hw
    rename_i bl hb
    split at hw<;>try cases hw
    split at hw<;>cases hw
    simp[hb]
   ·exact uz r hr q hq
theorem vD {m m':PM} {kd:IntKind}:∀(cs:List Atom),(∀k∈bL cs,m' k=m k)→jN m' kd cs=jN m kd cs
 | [],_=>rfl
 | a::r,h=>by
  simp only[jN]
  rw[vD r fun k hk=>h k (by simp[bL,hk])]
  have hw:mg m' kd (.o (.a a))=mg m kd (.o (.a a)):=rY fun k hk=>h k (by simp only[bL,List.mem_append];exact .inl hk)
  split
  ·split
   ·rfl
   ·rw[hw]
  ·rfl
theorem locI_ids:∀(its:List Itm) (i:Nat),∀k∈bL (locI i its),k<i+(jv its).length
 | [],i,k,hk=>by cases hk
 | .w x::r,i,k,hk=>by
  simp only[locI,bL,Atom.ids,List.mem_append,List.mem_singleton] at hk
  simp only[jv,List.length_cons]
  rcases hk with rfl | hk
  ·omega
  ·have:=locI_ids r (i+1) k hk;omega
 | .v a::r,i,k,hk=>by
  simp only[locI,bL,Atom.ids,List.nil_append] at hk
  exact locI_ids r i k hk
structure LstA where
 its:List Itm
 n:Nat
 ty:TypeId
def blksL (kd:IntKind) (x:LstA):List Blk:=⟨false,x.ty,.lit (locI 1 x.its)⟩::(jv x.its).map fun y=>⟨false,y.ty,.pre kd y.ys⟩
theorem vM {kd:IntKind} {x:LstA}:∀b∈blksL kd x,b.own=false:=by
 intro b hb
 simp only[blksL,List.mem_cons,List.mem_map] at hb
 rcases hb with rfl | ⟨y,_,rfl⟩<;>rfl
def lstOf (m:PM) (kd:IntKind) (shp:List Bool) (args:List SV):Option (LstA × List fG):=
 match args with
 | [.o (.a (.slc k 0 n c))]=>match Nat.beq c n,m k with
  | true,some ⟨_,ty,.lit cs⟩=>match jN m kd cs with
   | some (its,qs)=>match bl2 (qb its) shp&&Nat.beq n shp.length with
    | true=>some (⟨its,n,ty⟩,(k,0,none)::qs)
    | false=>none
   | none=>none
  | _,_=>none
 | _=>none
theorem vB {m:PM} {kd:IntKind} {shp:List Bool} {args:List SV} {x:LstA} {κ:List fG} (h:lstOf m kd shp args=some (x,κ)):
  ∃k own cs qs,args=[.o (.a (.slc k 0 x.n x.n))]∧m k=some ⟨own,x.ty,.lit cs⟩∧jN m kd cs=some (x.its,qs)∧qb x.its=shp∧x.n=shp.length∧κ=(k,0,none)::qs:=by
 unfold lstOf at h
 split at h<;>try cases h
 rename_i k n c
 split at h<;>try cases h
 rename_i own ty cs hcn hm
 split at h<;>try cases h
 rename_i its qs hi
 split at h<;>cases h
 rename_i hs
 simp only[Bool.and_eq_true] at hs
 have:=Nat.eq_of_beq_eq_true hcn
 subst this
 exact⟨k,own,cs,qs,rfl,hm,hi,bl2_eq hs.1,Nat.eq_of_beq_eq_true hs.2,rfl⟩
theorem getD_succ {α:Type} (a:α) (l:List α) (j:Nat) (d:α):(a::l).getD (1+j) d=l.getD j d:=by
 rw[Nat.add_comm];rfl
def Dec.list (P:Program) (kd:IntKind) (shp:List Bool) (res:List (List Int)→SV) (eff:List (List Int)→dH) (pre:List (List Int)→Cst)
  (good:∀ls,match eff ls with | .none=>(res ls).ids=[] | .new _ row=>row.ids=[] | .upd _ _=>False):Dec P LstA where
 largs x:=[.o (.a (.slc 0 0 x.n x.n))]
 lblks x:=blksL kd x
 res x:=res (ysI x.its)
 eff x:=eff (ysI x.its)
 pre x:=cstI x.its++pre (ysI x.its)
 inv x:=qb x.its=shp∧x.n=shp.length∧∀y∈jv x.its,y.ys.length=y.n
 dec m args:=lstOf m kd shp args
 ok m args x κ h hc:=by
  obtain⟨k,own,cs,qs,rfl,hmk,hi,hs,hn,rfl⟩:=vB h
  obtain⟨h1,h2,h3⟩:=sK cs 1 hi (aV hc).1
  have hk:∀j q,qs[j]? =some q→(((k,0,none)::qs).getD (1+j) ((0,0,none):fG)).1=q.1∧(((k,0,none)::qs).getD (1+j) ((0,0,none):fG)).2.1=q.2.1∧(((k,0,none)::qs).getD (1+j) ((0,0,none):fG)).2.2=q.2.2:=fun j q hq=>by
   rw[getD_succ,List.getD,hq]
   exact⟨rfl,rfl,rfl⟩
  refine⟨⟨hs,hn,fun y hy=> ?_⟩,⟨?_,?_⟩,fun β=> ?_⟩
  ·obtain⟨j,hj⟩:=List.mem_iff_getElem?.1 hy
   obtain⟨q,_,g,_⟩:=h2 j y hj
   exact g
  ·intro i b hb
   cases i with
   | zero=>
    simp only[blksL,List.getElem?_cons_zero,Option.some.injEq] at hb
    subst hb
    refine⟨_,hmk,rfl,.inr ⟨rfl,rfl,rfl,fun β n C hC=> ?_,fun j hj=> ?_⟩⟩
    ·show C=_
     have hC:C=cs.map (Atom.den β):=hC
     rw[hC]
     exact h3 β _ _ _ hk
    ·have:=locI_ids x.its 1 j hj
     simp only[blksL,List.length_cons,List.length_map]
     omega
   | succ i=>
    simp only[blksL,List.getElem?_cons_succ,List.getElem?_map] at hb
    obtain⟨y,hy,rfl⟩:=Option.map_eq_some_iff.1 hb
    obtain⟨q,hq,g1,bm,base,xs,o,g2,g3,g4,g5,g6,g7⟩:=h2 i y hy
    have hq':((k,0,none)::qs).getD (i+1) ((0,0,none):fG)=q:=by
     show qs.getD i _=q
     rw[List.getD,hq];rfl
    refine⟨bm,?_,g3,.inl ⟨rfl,.inr (.inl ⟨rfl,kd,y.ys,base,xs,o,rfl,g4,?_,g6,g7⟩)⟩⟩
    ·rw[hq'];exact g2
    ·rw[hq'];exact g5
  ·intro i j b c hb hc ho
   have:=vM b (List.mem_of_getElem? hb)
   rw[this] at ho;cases ho
  ·simp[SV.den,SV1.den,Atom.den,gB,Loc.at]
 sm m args x κ h i hi:=by
  obtain⟨k,own,cs,qs,rfl,hmk,hii,hs,hn,rfl⟩:=vB h
  cases i with
  | zero=>simp[hmk]
  | succ i=>
   show(m (qs.getD i (0,0,none)).1).isSome=true
   have hlen:qs.length=(jv x.its).length:=by
    clear hi hs hn h hmk
    generalize hq:x.its=its at hii
    clear hq
    induction cs generalizing its qs with
    | nil=>simp only[jN,Option.some.injEq,Prod.mk.injEq] at hii;obtain⟨rfl,rfl⟩:=hii;rfl
    | cons a r ih=>
     unfold jN at hii
     split at hii<;>try cases hii
     rename_i its' qs' hr
     split at hii
     ·cases hii;exact ih (qs:=qs) (its:=its') hr
     ·split at hii<;>cases hii
      simp[jv,ih (qs:=qs') (its:=its') hr]
   have hi':i<qs.length:=by
    simp only[blksL,List.length_cons,List.length_map] at hi
    omega
   rw[List.getD,List.getElem?_eq_getElem hi']
   exact uz cs hii _ (List.getElem_mem hi')
 loc m m' args h hd:=by
  unfold lstOf
  split
  ·rename_i k n c
   have hk:m' k=m k:=h (.o (.a (.slc k 0 n c))) (by simp) k (by simp[SV.ids,SV1.ids,Atom.ids])
   rw[hk]
   split
   ·rename_i own ty cs hcn hm
    rw[vD cs fun j hj=>hd (.o (.a (.slc k 0 n c))) (by simp) k (by simp[SV.ids,SV1.ids,Atom.ids]) _ hm j hj]
   ·rfl
  ·rfl
 ids x y hy k hk:=by
  simp only[List.mem_singleton] at hy
  subst hy
  simp only[SV.ids,SV1.ids,Atom.ids,List.mem_singleton] at hk
  subst hk
  simp[blksL]
 good x:=by
  have hg:=good (ysI x.its)
  generalize eff (ysI x.its)=e at hg
  cases e with
  | none=>exact⟨hg,vM⟩
  | upd ty r=>exact hg.elim
  | new ty r=>exact⟨hg,vM⟩
structure GroA where
 xs:List Int
 n:Nat
 lo:Nat
 hi:Option Nat
 ty:TypeId
 k:IntKind
 v:Int
def groOf (m:PM) (kd:IntKind) (inPl:Bool) (args:List SV):Option (GroA × List fG):=
 match args with
 | [.o (.a (.slg k n)),.o (.a (.v (.int kv v)))]=>match m k with
  | some ⟨true,ty,.gro kd' xs lo none⟩=>match inPl with
   | true=>if kd'=kd then some (⟨xs,n,lo,none,ty,kv,v⟩,[(k,0,none)]) else none
   | false=>none
  | some ⟨true,ty,.gro kd' xs lo (some h)⟩=>match inPl with
   | false=>if kd'=kd then some (⟨xs,n,lo,some h,ty,kv,v⟩,[(k,0,none)]) else none
   | true=>none
  | _=>none
 | _=>none
theorem groOf_inv {m:PM} {kd:IntKind} {inPl:Bool} {args:List SV} {x:GroA} {κ:List fG} (h:groOf m kd inPl args=some (x,κ)):
  ∃k,args=[.o (.a (.slg k x.n)),.o (.a (.v (.int x.k x.v)))]∧m k=some ⟨true,x.ty,.gro kd x.xs x.lo x.hi⟩∧x.hi.isNone=inPl∧κ=[(k,0,none)]:=by
 unfold groOf at h
 split at h<;>try cases h
 rename_i k n kv v
 split at h<;>try cases h
 ·rename_i ty kd' xs lo hm
  split at h<;>try cases h
  split at h<;>cases h
  rename_i hk
  subst hk
  exact⟨k,rfl,hm,rfl,rfl⟩
 ·rename_i ty kd' xs lo hh hm
  split at h<;>try cases h
  split at h<;>cases h
  rename_i hk
  subst hk
  exact⟨k,rfl,hm,rfl,rfl⟩
def Dec.gro (P:Program) (kd:IntKind) (inPl:Bool) (res:GroA→SV) (eff:GroA→dH) (pre:GroA→Cst)
  (good:∀x,match eff x with | .none=>False | .new _ row=>inPl=false∧row.ids=[] | .upd ty row=>inPl=true∧ty=x.ty∧row.ids=[]∧∀k∈(res x).ids,k=0):Dec P GroA where
 largs x:=[.o (.a (.slg 0 x.n)),.o (.a (.v (.int x.k x.v)))]
 lblks x:=[⟨inPl,x.ty,.gro kd x.xs x.lo x.hi⟩]
 res:=res
 eff:=eff
 pre:=pre
 inv x:=x.hi.isNone=inPl
 dec m args:=groOf m kd inPl args
 ok m args x κ h hc:=by
  obtain⟨k,rfl,hm,hh,rfl⟩:=groOf_inv h
  refine⟨hh,⟨?_,?_⟩,fun β=> ?_⟩
  ·intro i b hb
   cases i with
   | zero=>
    simp only[List.getElem?_cons_zero,Option.some.injEq] at hb
    subst hb
    exact⟨_,hm,rfl,.inl ⟨rfl,.inl ⟨rfl,rfl,fun _ _ _ h=>h,fun _=>rfl⟩⟩⟩
   | succ i=>simp at hb
  ·intro i j b c hb hc ho he
   cases i with
   | zero=>cases j with
    | zero=>rfl
    | succ j=>simp at hc
   | succ i=>simp at hb
  ·simp[SV.den,SV1.den,Atom.den,gB,Loc.at]
 sm m args x κ h i hi:=by
  obtain⟨k,rfl,hm,hh,rfl⟩:=groOf_inv h
  have hi0:i=0:=by simp at hi;exact hi
  subst hi0
  simp[hm]
 loc m m' args h hd:=by
  unfold groOf
  split
  ·rename_i k n kv v
   rw[h (.o (.a (.slg k n))) (by simp) k (by simp[SV.ids,SV1.ids,Atom.ids])]
  ·rfl
 ids x y hy k hk:=by
  simp only[List.mem_cons,List.not_mem_nil,or_false] at hy
  rcases hy with rfl | rfl
  ·simp only[SV.ids,SV1.ids,Atom.ids,List.mem_singleton] at hk
   subst hk
   simp
  ·cases hk
 good x:=by
  have hg:=good x
  generalize eff x=e at hg
  cases e with
  | none=>exact hg.elim
  | upd ty r=>exact⟨hg.2.2.2,hg.2.2.1,⟨_,rfl,hg.1,hg.2.1.symm⟩,fun i b hb=>by simp at hb⟩
  | new ty r=>exact⟨hg.2,fun b hb=>by simp at hb;rw[hb];exact hg.1⟩
def Con.or {P:Program} {G:Glob} (a b:Con P G) (hf:b.f=a.f) (hfr:∀m fr fr' args,a.spec m fr args=none→a.spec m fr' args=none):Con P G where
 f:=a.f
 spec m fr args:=match a.spec m fr args with
  | some r=>some r
  | none=>b.spec m fr args
 ok m fr args r e c N w0 β w h:=by
  split at h
  ·rename_i q hq
   cases h
   exact a.ok m fr args r e c N w0 β w hq
  ·have:=b.ok m fr args r e c N w0 β w h
   rw[hf] at this
   exact this
 loc m m' fr fr' args r e c hm hd h hn:=by
  split at h
  ·rename_i q hq
   cases h
   rw[a.loc m m' fr fr' args r e c hm hd hq hn]
  ·rename_i hq
   have hno:a.spec m' fr' args=none:=by
    cases hs:a.spec m' fr' args with
    | none=>rfl
    | some q=>
     obtain⟨r2,e2,c2⟩:=q
     have:=a.loc m' m fr' fr' args r2 e2 c2 (fun x hx k hk=>(hm x hx k hk).symm) (fun x hx k hk b hb j hj=>(hd x hx k hk b (by rw[←hm x hx k hk];exact hb) j hj).symm) hs (fun _=>rfl)
     rw[hfr m fr fr' args hq] at this
     cases this
   rw[hno]
   exact b.loc m m' fr fr' args r e c hm hd h hn
 upd m fr args r k row c h:=by
  split at h
  ·rename_i q hq
   cases h
   exact a.upd m fr args r k row c hq
  ·exact b.upd m fr args r k row c h
theorem Con.hand_fr {G:Glob} {P:Program} {T:Ty} (hT:T.ok P) (f:FuncId) (fn:Func) (hf:P.funcs[f]? =some fn) (h1:(fn.name== "runtime.NumGoroutine")=false) {c:Code} (hb:fn.body=some c) {ι:Type} (D:Dec P ι)
  (run:∀x,Holds (D.pre x)→D.inv x→aF P G (D.lblks x).length c (aK fn (D.largs x)) (D.lblks x) (aH T fn (bJ (D.res x) (D.eff x)))):
  ∀m fr fr' args,(Con.hand (G:=G) hT f fn hf h1 hb D run).spec m fr args=none→(Con.hand (G:=G) hT f fn hf h1 hb D run).spec m fr' args=none:=by
 intro m fr fr' args h
 simp only[Con.hand] at h ⊢
 split
 ·rename_i x κ hx
  rw[hx] at h
  simp only at h
  split at h<;>cases h
 ·rfl
section
variable {G:Glob} {P:Program} {tm:List SV} {mem:List Blk} {Post:Ex→List SV→List Blk→Prop} {F:Nat}
end
section
variable {G:Glob} {P:Program} {Γ:Cons P G} {T:Ty} {c a b:Code} {tm tm':List SV} {mem mem':List Blk} {Post Post':Ex→List SV→List Blk→Prop} {F:Nat}
theorem Rel.setSlot {N:Nat} {w0:Base G} {tm:List SV} {mem mem':List Blk} {orc:Orc} {β:Nat→Loc} {a:Act} {w:World} (hr:Rel N w0 ⟨tm,mem,orc⟩ β a w) {j:Nat} {u v:SV} (hj:tm[j]? =some u) (hd:v.den β=u.den β) (hv:∀k∈v.ids,k∈u.ids)
  (hl:mem'.length=mem.length) (hm:bG N w0 (fun k=>mem'[k]?) β w):Rel N w0 ⟨tm.set j v,mem',orc⟩ β a w:=by
 refine⟨?_,hr.defers,hm,fun x hx k hk=> ?_⟩
 ·have ht:=hr.tmps
  simp only at ht ⊢
  rw[ht,List.map_set,hd]
  congr 1
  apply List.ext_getElem?
  intro i
  rw[List.getElem?_set]
  by_cases e:j=i
  ·subst e
   have hjl:j<(tm.map (SV.den β)).length:=by
    rw[List.length_map]
    rcases Nat.lt_or_ge j tm.length with h' | h'
    ·exact h'
    ·rw[List.getElem?_eq_none h'] at hj;cases hj
   rw[if_pos rfl,if_pos hjl,List.getElem?_map,hj]
   rfl
  ·rw[if_neg e]
 ·show k<mem'.length
  rw[hl]
  rcases List.mem_or_eq_of_mem_set hx with hx | rfl
  ·exact hr.ids x hx k hk
  ·exact hr.ids u (List.mem_of_getElem? hj) k (hv k hk)
theorem Runs.nameRoom (j k:Nat) {n:Nat} {own:Bool} {ty:TypeId} {s:Nat} {vs:List Value} {lo:Nat} {hi:Option Nat} (hj:tm[j]? =some (.o (.a (.slg k n)))) (hb:mem[k]? =some ⟨own,ty,.grv s vs lo hi⟩)
  (h:∀R,lo≤R→vs.length≤R*s→aF P G F c (tm.set j (.o (.a (.sld k 0 0 n R)))) (mem.set k ⟨own,ty,.grv s vs R (some (R+1))⟩) Post):aF P G F c tm mem Post:=by
 intro N w0 β ac w Q hF hr hQ
 have hk:k<mem.length:=by
  rcases Nat.lt_or_ge k mem.length with h' | h'
  ·exact h'
  ·rw[List.getElem?_eq_none h'] at hb;cases hb
 have hset:∀(r:Row) (j:Nat),(mem.set k ⟨own,ty,r⟩)[j]? =if j=k then some ({ (⟨own,ty,.grv s vs lo hi⟩:Blk) with row:=r }) else mem[j]? :=fun r j=>by
  rw[List.getElem?_set]
  by_cases e:k=j
  ·subst e;simp[hk]
  ·rw[if_neg e,if_neg (fun ee=>e ee.symm)]
 obtain⟨fr,pre,C,q1,q0,⟨tail,q2,q3,q4,q5⟩,q6⟩:=hr.mem.blk k _ hb
 refine h (β k).c q4 (by rw[←q3,q2,List.length_append];omega) N w0 β ac w Q hF (hr.setSlot hj (by simp[SV.den,SV1.den,Atom.den]) (fun i hi=>hi) (by simp) (hr.mem.row hb (hset _) ?_ (by intro j hj;cases hj))) hQ
 rintro C' ⟨t',p1,p2,p3,p4⟩
 exact⟨t',p1,p2,Nat.le_refl _,fun x hx=>by cases hx;exact Nat.lt_succ_self _⟩
theorem Runs.hideRoom (j k l:Nat) {n R:Nat} {own:Bool} {ty:TypeId} {s:Nat} {vs:List Value} (hj:tm[j]? =some (.o (.a (.sld k 0 0 n R)))) (hb:mem[k]? =some ⟨own,ty,.grv s vs R (some (R+1))⟩) (hl:l≤R)
  (h:aF P G F c (tm.set j (.o (.a (.slg k n)))) (mem.set k ⟨own,ty,.grv s vs l none⟩) Post):aF P G F c tm mem Post:=by
 intro N w0 β ac w Q hF hr hQ
 have hk:k<mem.length:=by
  rcases Nat.lt_or_ge k mem.length with h' | h'
  ·exact h'
  ·rw[List.getElem?_eq_none h'] at hb;cases hb
 have hset:∀(r:Row) (j:Nat),(mem.set k ⟨own,ty,r⟩)[j]? =if j=k then some ({ (⟨own,ty,.grv s vs R (some (R+1))⟩:Blk) with row:=r }) else mem[j]? :=fun r j=>by
  rw[List.getElem?_set]
  by_cases e:k=j
  ·subst e;simp[hk]
  ·rw[if_neg e,if_neg (fun ee=>e ee.symm)]
 obtain⟨fr,pre,C,q1,q0,⟨tail,q2,q3,q4,q5⟩,q6⟩:=hr.mem.blk k _ hb
 have hc:(β k).c=R:=by have:=q5 _ rfl;have:R≤(β k).c:=q4;omega
 refine h N w0 β ac w Q hF (hr.setSlot hj (by simp[SV.den,SV1.den,Atom.den,hc]) (fun i hi=>hi) (by simp) (hr.mem.row hb (hset _) ?_ (by intro j hj;cases hj))) hQ
 rintro C' ⟨t',p1,p2,p3,p4⟩
 exact⟨t',p1,p2,by omega,fun x hx=>by cases hx⟩
end
def Atom.mov (k b o:Nat):Atom→Atom
 | .sld _ b' o' n c=> .sld k b (o+(b'+o')) n c
 | x=>x
def SV1.mov (k b o:Nat):SV1→SV1
 | .a x=> .a (x.mov k b o)
 | .g cs=> .g (cs.map (Atom.mov k b o))
def SV.mov (k b o:Nat):SV→SV
 | .o x=> .o (x.mov k b o)
 | .t xs=> .t (xs.map (SV1.mov k b o))
def Atom.part:Atom→Bool
 | .sld 0 _ _ _ _=>true
 | x=>x.ids.isEmpty
def SV1.part:SV1→Bool
 | .a x=>x.part
 | .g cs=>cs.all Atom.part
def SV.part:SV→Bool
 | .o x=>x.part
 | .t xs=>xs.all SV1.part
theorem Atom.pQ {β β':Nat→Loc} {k b o:Nat} (h0:(β' 0).a=(β k).a) (h1:(β' 0).s=(β k).s+(b+o)):∀(x:Atom),x.part=true→x.den β'=(x.mov k b o).den β:=fun x hx=>by
 unfold Atom.part at hx
 split at hx
 ·simp[Atom.mov,Atom.den,Loc.at,h0,h1,Nat.add_assoc]
 ·have e:x.mov k b o=x:=by
   unfold Atom.mov
   split
   ·simp[Atom.ids] at hx
   ·rfl
  rw[e]
  exact vK x fun i hi=>by rw[List.isEmpty_iff.1 hx] at hi;cases hi
theorem SV1.pQ {β β':Nat→Loc} {k b o:Nat} (h0:(β' 0).a=(β k).a) (h1:(β' 0).s=(β k).s+(b+o)) (x:SV1) (hx:x.part=true):x.den β'=(x.mov k b o).den β:=by
 cases x with
 | a x=>exact Atom.pQ h0 h1 x hx
 | g cs=>
  simp only[SV1.den,SV1.mov,List.map_map]
  congr 2
  exact List.map_congr_left fun c hc=>Atom.pQ h0 h1 c (List.all_eq_true.1 hx c hc)
theorem SV.pQ {β β':Nat→Loc} {k b o:Nat} (h0:(β' 0).a=(β k).a) (h1:(β' 0).s=(β k).s+(b+o)) (x:SV) (hx:x.part=true):x.den β'=(x.mov k b o).den β:=by
 cases x with
 | o x=>exact SV1.pQ h0 h1 x hx
 | t xs=>
  simp only[SV.den,SV.mov,List.map_map]
  congr 2
  exact List.map_congr_left fun c hc=>SV1.pQ h0 h1 c (List.all_eq_true.1 hx c hc)
theorem Atom.pO {k b o:Nat}:∀(x:Atom),x.part=true→∀i∈(x.mov k b o).ids,i=k:=fun x hx i hi=>by
 unfold Atom.part at hx
 split at hx
 ·simpa [Atom.mov,Atom.ids] using hi
 ·have e:x.mov k b o=x:=by
   unfold Atom.mov
   split
   ·simp[Atom.ids] at hx
   ·rfl
  rw[e,List.isEmpty_iff.1 hx] at hi
  cases hi
theorem SV1.pO {k b o:Nat} (x:SV1) (hx:x.part=true):∀i∈(x.mov k b o).ids,i=k:=fun i hi=>by
 cases x with
 | a x=>exact Atom.pO x hx i hi
 | g cs=>
  obtain⟨c,hc,h⟩:=lM hi
  obtain⟨d,hd,rfl⟩:=List.mem_map.1 hc
  exact Atom.pO d (List.all_eq_true.1 hx d hd) i h
theorem idsT_mem {xs:List SV1} {k:Nat} (h:k∈idsT xs):∃x∈xs,k∈x.ids:=by
 induction xs with
 | nil=>cases h
 | cons d r ih=>
  simp only[idsT,List.mem_append] at h
  rcases h with h | h
  ·exact⟨d,by simp,h⟩
  ·obtain⟨c,hc,hk⟩:=ih h;exact⟨c,by simp[hc],hk⟩
theorem SV.pO {k b o:Nat} (x:SV) (hx:x.part=true):∀i∈(x.mov k b o).ids,i=k:=fun i hi=>by
 cases x with
 | o x=>exact SV1.pO x hx i hi
 | t xs=>
  obtain⟨c,hc,h⟩:=idsT_mem hi
  obtain⟨d,hd,rfl⟩:=List.mem_map.1 hc
  exact SV1.pO d (List.all_eq_true.1 hx d hd) i h
def Con.win {G:Glob} {P:Program} {T:Ty} (hT:T.ok P) (f:FuncId) (fn:Func) (hf:P.funcs[f]? =some fn) (h1:(fn.name== "runtime.NumGoroutine")=false) {c:Code} (hb:fn.body=some c) (s:Nat)
  (spec:List Value→Nat→Nat→List SV→Option (SV × Cst)) (good:∀ys n cp rest r p,spec ys n cp rest=some (r,p)→r.part=true)
  (run:∀ys n cp ty rest r p,spec ys n cp rest=some (r,p)→Holds p→ys.length=n*s→n≤cp→(rest.all fun x=>x.ids.isEmpty)=true→
   aF P G 1 c (aK fn (.o (.a (.sld 0 0 0 n cp))::rest)) [⟨false,ty,.prv ys⟩] (aH T fn (bJ r .none))):Con P G where
 f:=f
 spec:=fun m _ args=>match args with
  | .o (.a (.sld k b o n cp))::rest=>match rest.all fun x=>x.ids.isEmpty,m k with
   | true,some bl=>match bl.row.valsL with
    | some vs=>match spec ((vs.drop (b+o)).take (n*s)) n cp rest with
     | some (r,p)=>some (r.mov k b o,.none,(b+o+n*s≤vs.length)::(n≤cp)::p)
     | none=>none
    | none=>none
   | _,_=>none
  | _=>none
 ok:=fun m fr args r' e' cs N w0 β w h hc hm hf0 hids=>by
  refine .inl ⟨iX hf h1 (by rw[hb];rfl) _ w,?_⟩
  split at h<;>try cases h
  rename_i k b o n cp rest
  split at h<;>try cases h
  rename_i bl hrest hbl
  split at h<;>try cases h
  rename_i vs hvs
  split at h<;>cases h
  rename_i r p hsp
  obtain⟨hle,hcap,hp⟩:=hc
  have hlen:((vs.drop (b+o)).take (n*s)).length=n*s:=by rw[List.length_take,List.length_drop];omega
  have hh:Hand m (fun _=>k) (fun _=>b+o) (fun _=>some cp) [⟨false,bl.ty,.prv ((vs.drop (b+o)).take (n*s))⟩]:=by
   refine⟨fun i b' hb'=> ?_,fun i j b' c' hb' hc' ho=> ?_⟩
   ·cases i with
    | zero=>
     simp only[List.getElem?_cons_zero,Option.some.injEq] at hb'
     subst hb'
     refine⟨bl,hbl,rfl,.inl ⟨rfl,.inr (.inr ⟨rfl,fun β n' C hC=> ?_⟩)⟩⟩
     obtain⟨tail,rfl⟩:=Row.tX hvs β n' C hC
     refine⟨vs.take (b+o),vs.drop (b+o)++tail,by rw[←List.append_assoc,List.take_append_drop],by rw[List.length_take];omega,fun n''=>⟨((vs.drop (b+o)).drop (n*s))++tail,?_⟩⟩
     rw[←List.append_assoc,List.take_append_drop]
    | succ i=>simp at hb'
   ·cases i with
    | zero=>simp only[List.getElem?_cons_zero,Option.some.injEq] at hb';subst hb';cases ho
    | succ i=>simp at hb'
  have e0:(gB β (fun _=>k) (fun _=>b+o) (fun _=>some cp) 0).a=(β k).a:=rfl
  have e1:(gB β (fun _=>k) (fun _=>b+o) (fun _=>some cp) 0).s=(β k).s+(b+o):=rfl
  have hargs:(SV.o (.a (.sld k b o n cp))::rest).map (SV.den β)=(SV.o (.a (.sld 0 0 0 n cp))::rest).map (SV.den (gB β (fun _=>k) (fun _=>b+o) (fun _=>some cp))):=by
   have q1:(SV.o (.a (.sld k b o n cp))).den β=(SV.o (.a (.sld 0 0 0 n cp))).den (gB β (fun _=>k) (fun _=>b+o) (fun _=>some cp)):=by
    simp[SV.den,SV1.den,Atom.den,Loc.at,e0,e1]
   have q2:rest.map (SV.den β)=rest.map (SV.den (gB β (fun _=>k) (fun _=>b+o) (fun _=>some cp))):=List.map_congr_left fun x hx=>fE x fun i hi=>by
    have:=List.all_eq_true.1 hrest x hx
    rw[List.isEmpty_iff.1 this] at hi
    cases hi
   rw[List.map_cons,List.map_cons,q1,q2]
  rw[hargs]
  refine(oM hT hf hb hh hm (fun x hx i hi=> ?_) (run _ _ _ _ _ _ _ hsp hp hlen hcap hrest)).mono ?_
  ·rcases List.mem_cons.1 hx with rfl | hx
   ·simp only[SV.ids,SV1.ids,Atom.ids,List.mem_singleton] at hi
    subst hi
    simp
   ·have:=List.all_eq_true.1 hrest x hx
    rw[List.isEmpty_iff.1 this] at hi
    cases hi
  ·rintro en w' ⟨β',rr,m',hq,rfl,hβ,hm'⟩
   have hq:rr=r:=hq
   subst hq
   have hg:=good _ _ _ _ _ _ hsp
   have h0:=hβ 0 Nat.zero_lt_one
   refine⟨β,?_,fun _ _=>rfl,(oq hm (by intro b' hb';simp only[List.mem_singleton] at hb';rw[hb']) hm').1,fun i hi=> ?_⟩
   ·exact congrArg Ending.returned (SV.pQ (by rw[h0];rfl) (by rw[h0];rfl) rr hg)
   ·have:=SV.pO rr hg i hi
    subst this
    show(m i).isSome=true
    rw[hbl];rfl
 loc:=fun m m' fr fr' args r e c hm hd h hn=>by
  split at h<;>try cases h
  rename_i k b o n cp rest
  have hk:m' k=m k:=hm _ (List.mem_cons_self) k (by simp[SV.ids,SV1.ids,Atom.ids])
  simp only[hk]
  exact h
 upd:=fun m fr args r k row c h=>by
  split at h<;>try cases h
  split at h<;>try cases h
  split at h<;>try cases h
  split at h<;>cases h
def l6 (ops:List Oper) (m:Nat):Bool:=
 chkE ops&&(nN (fun i o=>match Nat.ble m i with
  | true=>nN (fun j _=> !(Nat.blt j i)||((kL ops []).getD i 0).testBit j) 0 ops
  | false=>match o.guard with
   | none=>true
   | some (g,_)=>Nat.blt g m) 0 ops)
section
variable {G:Glob} {P:Program} {Γ:Cons P G} {T:Ty} {ops:List Oper} {tm0:List SV} {aT:List Blk} {E:List Ent} {idE m:Nat}
variable (hT:T.ok P) {N:Nat} {w0:Base G}
theorem pre_of_cut (h:l6 ops m=true) {i j:Nat} (hi:m≤i) (hi2:i<ops.length) (hj:j<i):Pre ops j i:=by
 unfold l6 at h
 rw[Bool.and_eq_true] at h
 have h1:=fQ h.2 i ops[i] (by simp[hi2])
 simp only[Nat.zero_add] at h1
 rw[show Nat.ble m i=true by rw[Nat.ble_eq];exact hi] at h1
 have h2:=fQ h1 j ops[j] (by simp[show j<ops.length by omega])
 simp only[Nat.zero_add] at h2
 rw[show Nat.blt j i=true by unfold Nat.blt;rw[Nat.ble_eq];exact hj] at h2
 exact rG (ops:=ops) ops [] (fun j o h=>by simpa using h) (fun j i h=>by simp at h) i j (by simpa using h2)
theorem Pre.of_take {j k:Nat} (h:Pre (ops.take m) j k):Pre ops j k:=by
 induction h with
 | edge h1 h2 h3=>
  rename_i j0 o e
  refine .edge ?_ h2 h3
  rw[List.getElem?_take] at h1
  split at h1
  ·exact h1
  ·cases h1
 | trans _ _ ih1 ih2=>exact .trans ih1 ih2
theorem wanted_take {opsA:Array Oper} {o:Oper} {i:Nat} (ho:opsA[i]? =some o) (hi:i<m) (h:l6 opsA.toList m=true) (tmps:Array Value):
  Region.wanted o (yielded opsA tmps)=Region.wanted o (yielded (opsA.toList.take m).toArray tmps):=by
 unfold l6 at h
 rw[Bool.and_eq_true] at h
 have h1:=fQ h.2 i o (by simpa using ho)
 simp only[Nat.zero_add] at h1
 rw[show Nat.ble m i=false by rw[←Bool.not_eq_true,Nat.ble_eq];omega] at h1
 unfold Region.wanted
 simp only at h1
 cases hg:o.guard with
 | none=>rfl
 | some p=>
  obtain⟨g,t⟩:=p
  rw[hg] at h1
  have hgm:g<m:=Nat.le_of_ble_eq_true h1
  have:yielded opsA tmps g=yielded (opsA.toList.take m).toArray tmps g:=by
   unfold yielded
   congr 2
   simp[List.getElem?_take,hgm]
  simp only[this]
theorem wpAny_tail {opsA:Array Oper} {Q:Exit→Act→World→Prop} (h:l6 opsA.toList m=true):∀(k i fuel:Nat) (l:Array Bool) (a:Act) (w:World),m≤i→i+k=opsA.size→k≤fuel→l.size=opsA.size→(∀j,l.getD j false=decide (j<i))→
  wpList P opsA Q (opsA.toList.drop i) a w→wpAny P .any opsA Q fuel l a w:=by
 have hE:chkE opsA.toList=true:=by
  unfold l6 at h
  rw[Bool.and_eq_true] at h
  exact h.1
 have hlt:∀(l:Array Bool),l.size=opsA.size→∀j,l.getD j true=false→l.getD j false=false∧j<opsA.size:=fun l hs j hj=>by
  rcases Nat.lt_or_ge j l.size with h' | h'
  ·simp[h'] at hj ⊢
   exact⟨hj,by omega⟩
  ·simp[h'] at hj
 have hready:∀(i:Nat) (l:Array Bool),m≤i→l.size=opsA.size→(∀j,l.getD j false=decide (j<i))→∀i'∈Region.ready .any opsA l,i'=i:=by
  intro i l hi hs hl i' hi'
  obtain⟨h1,h2⟩:=List.mem_filter.1 hi'
  have h1:=List.mem_range.1 h1
  simp only[Bool.and_eq_true] at h2
  have hu:=(hlt l hs i' (by simpa using h2.1)).1
  rw[hl] at hu
  have hge:i≤i':=by simpa using hu
  rcases Nat.lt_or_ge i i' with hlt' | hle
  ·exfalso
   have hp:=pre_of_cut h (i:=i') (j:=i) (by omega) (by simpa using h1) hlt'
   have h3:=h2.2
   rw[show opsA[i']? =some opsA[i'] by simp[h1]] at h3
   simp only[Option.map_some,Option.getD_some] at h3
   rw[←Array.all_toList] at h3
   have key:∀x y,Pre opsA.toList x y→y=i'→x<i:=by
    intro x y hxy
    induction hxy with
    | edge g1 g2 g3=>
     rename_i j0 o e
     intro hy
     rw[hy] at g1
     have:o=opsA[i']:=by
      have g1':opsA[i']? =some o:=by simpa using g1
      rw[show opsA[i']? =some opsA[i'] by simp[h1]] at g1'
      cases g1';rfl
     subst this
     have:=List.all_eq_true.1 h3 e g2
     rw[g3] at this
     have:=hl e.on ▸ (by simpa using this:l.getD e.on false=true)
     simpa using this
    | trans g1 g2 ih1 ih2=>
     intro hy
     rename_i x k y
     have hk:=ih2 hy
     have:x<k:=by
      clear ih1 ih2
      have lt:∀x y,Pre opsA.toList x y→x<y:=by
       intro x y hxy
       induction hxy with
       | edge q1 q2 q3=>
        rename_i j o e
        have:=fQ hE j o q1
        have:=List.all_eq_true.1 this e q2
        rw[q3] at this
        simp only[Bool.not_true,Bool.false_or,Nat.zero_add] at this
        exact Nat.le_of_ble_eq_true this
       | trans _ _ a b=>omega
      exact lt _ _ g1
     omega
   have:=key i i' hp rfl
   omega
  ·omega
 intro k
 induction k with
 | zero=>
  intro i fuel l a w hm hi hf hs hl hw
  have hnil:Region.ready .any opsA l=[]:=by
   refine List.eq_nil_iff_forall_not_mem.2 fun i' hi'=> ?_
   have h1:=hready i l hm hs hl i' hi'
   have:=List.mem_range.1 (List.mem_filter.1 hi').1
   omega
  have hd:opsA.toList.drop i=[]:=List.drop_eq_nil_of_le (by simp;omega)
  rw[hd] at hw
  exact wpAny_done hnil hw fuel
 | succ k ih=>
  intro i fuel l a w hm hi hf hs hl hw
  cases fuel with
  | zero=>omega
  | succ fuel=>
   have hio:i<opsA.size:=by omega
   have hmem:i∈Region.ready .any opsA l:=by
    refine List.mem_filter.2 ⟨List.mem_range.2 hio,?_⟩
    have h0:l.getD i true=false:=by
     have:=hl i
     have hi':i<l.size:=by omega
     simp[hi'] at this ⊢
     exact this
    rw[h0,show opsA[i]? =some opsA[i] by simp[hio]]
    simp only[Bool.not_false,Bool.true_and,Option.map_some,Option.getD_some]
    rw[←Array.all_toList]
    refine List.all_eq_true.2 fun e he=> ?_
    have h1:=fQ hE i opsA[i] (by simp[hio])
    have h2:=List.all_eq_true.1 h1 e he
    cases hb:Region.binds .any e with
    | false=>simp
    | true=>
     rw[hb] at h2
     simp only[Bool.not_true,Bool.false_or,Nat.zero_add] at h2
     have hlt:e.on<i:=Nat.le_of_ble_eq_true h2
     simp only[Bool.not_true,Bool.false_or]
     rw[hl]
     exact decide_eq_true hlt
   refine⟨fun hn=> ?_,fun i' hi'=> ?_⟩
   ·rw[hn] at hmem;cases hmem
   ·obtain rfl:=hready i l hm hs hl i' hi'
    have hd:opsA.toList.drop i'=opsA[i']::opsA.toList.drop (i'+1):=by
     rw[List.drop_eq_getElem_cons (by simpa using hio)]
     simp
    rw[hd] at hw
    unfold wpOp
    rw[show opsA[i']? =some opsA[i'] by simp[hio]]
    simp only[wpList] at hw ⊢
    have next:∀a w,wpList P opsA Q (opsA.toList.drop (i'+1)) a w→wpAny P .any opsA Q fuel (l.setIfInBounds i' true) a w:=fun a w hh=>by
     refine ih (i'+1) fuel _ a w (by omega) (by omega) (by omega) (by simpa using hs) (fun j=> ?_) hh
     by_cases hj:j=i'
     ·subst hj
      have hi':j<l.size:=by omega
      simp[hi']
     ·have:=hl j
      simp only[Array.getD_eq_getD_getElem?] at this ⊢
      rw[Array.getElem?_setIfInBounds_ne (Ne.symm hj),this]
      rw[Bool.eq_iff_iff]
      simp only[decide_eq_true_eq]
      omega
    split
    ·rename_i hwant
     rw[if_pos hwant] at hw
     exact hw.imp (Oper.wp_mono next) id
    ·rename_i hwant
     rw[if_neg hwant] at hw
     exact next _ _ hw
include hT
theorem any_cut {opsA:Array Oper} (c:Chk Γ T (opsA.toList.take m) tm0 aT E idE) (hcut:l6 opsA.toList m=true) (hmn:m≤opsA.size) (h0:∀v∈tm0,∀k∈v.ids,k<aT.length) {Q:Exit→Act→World→Prop}
  (hQ:∀a w,Inv N w0 tm0 aT E (fun _=>true) a w→wpList P opsA Q (opsA.toList.drop m) a w):∀(fuel:Nat) (l:Array Bool) (a:Act) (w:World),l.size=opsA.size→unl l≤fuel→
   (∀j k,Pre opsA.toList j k→l.getD k false=true→l.getD j false=true)→(∀j,m≤j→l.getD j false=false)→Inv N w0 tm0 aT E (fun j=>l.getD j false) a w→wpAny P .any opsA Q fuel l a w:=by
 have hE:chkE opsA.toList=true:=by
  unfold l6 at hcut
  rw[Bool.and_eq_true] at hcut
  exact hcut.1
 have hEl:E.length=m:=by rw[c.len,List.length_take];simp;omega
 have full:∀(fuel:Nat) (l:Array Bool) (a:Act) (w:World),l.size=opsA.size→unl l≤fuel→(∀i,i<m→l.getD i false=true)→(∀j,m≤j→l.getD j false=false)→Inv N w0 tm0 aT E (fun j=>l.getD j false) a w→wpAny P .any opsA Q fuel l a w:=by
  intro fuel l a w hs hu hall hno hI
  have hl:∀j,l.getD j false=decide (j<m):=fun j=>by
   rcases Nat.lt_or_ge j m with h | h
   ·rw[hall j h,decide_eq_true h]
   ·rw[hno j h,decide_eq_false (by omega)]
  have hEL:EL E (fun j=>l.getD j false)=EL E (fun _=>true):=by
   unfold EL
   apply List.filter_congr
   intro e he
   have:=c.tr.lt e he
   show l.getD e.i false=true
   exact hall e.i (by omega)
  have hun:opsA.size-m≤unl l:=by
   have key:∀(L:List Bool) (m:Nat),(∀j,L.getD j false=decide (j<m))→L.length-m≤L.count false:=by
    intro L
    induction L with
    | nil=>intro m _;simp
    | cons b r ih=>
     intro m hL
     cases m with
     | zero=>
      have h0:=hL 0
      simp at h0
      subst h0
      have:=ih 0 fun j=>by have:=hL (j+1);simpa using this
      simp only[List.count_cons_self,List.length_cons]
      omega
     | succ m=>
      have h0:=hL 0
      simp at h0
      subst h0
      have:=ih m fun j=>by
       have:=hL (j+1)
       simp only[List.getD_cons_succ] at this
       rw[this,Bool.eq_iff_iff]
       simp only[decide_eq_true_eq]
       omega
      simp only[List.length_cons]
      rw[List.count_cons_of_ne (by decide)]
      omega
   have:=key l.toList m fun j=>by
    have:=hl j
    rw[←this]
    simp[List.getD]
   unfold unl
   simp only[Array.length_toList] at this
   omega
  refine wpAny_tail hcut (opsA.size-m) m fuel l a w (Nat.le_refl _) (by omega) (by omega) hs hl (hQ a w ?_)
  unfold Inv at hI ⊢
  rw[hEL] at hI
  exact hI
 intro fuel
 induction fuel with
 | zero=>
  intro l a w hs hu hcl hno hI
  refine full 0 l a w hs hu (fun i hi=> ?_) hno hI
  have hc:l.toList.count false=0:=by unfold unl at hu;omega
  have:=List.count_eq_zero.1 hc
  have hi':i<l.size:=by omega
  cases hv:l.getD i false with
  | true=>rfl
  | false=>
   exfalso
   simp[hi'] at hv
   exact this (by rw[←hv];simp)
 | succ fuel ih=>
  intro l a w hs hu hcl hno hI
  by_cases hall:∀i,i<m→l.getD i false=true
  ·exact full (fuel+1) l a w hs hu hall hno hI
  ·have hex:∃i,i<m∧l.getD i false=false:=by
    apply Classical.byContradiction
    intro hn
    apply hall
    intro i hi
    cases hv:l.getD i false with
    | true=>rfl
    | false=>exact absurd ⟨i,hi,hv⟩ hn
   have hedge:∀i∈Region.ready .any opsA l,∀(hi:i<opsA.size),∀e∈(opsA[i]).after.toList,Region.binds .any e=true→l.getD e.on false=true:=by
    intro i hir hi e he hb
    have h2:=(List.mem_filter.1 hir).2
    simp only[Bool.and_eq_true] at h2
    have h2:=h2.2
    rw[show opsA[i]? =some opsA[i] by simp[hi]] at h2
    simp only[Option.map_some,Option.getD_some] at h2
    rw[←Array.all_toList] at h2
    have:=List.all_eq_true.1 h2 e he
    rw[hb] at this
    simpa using this
   have hpre:∀i∈Region.ready .any opsA l,∀j,Pre opsA.toList j i→l.getD j false=true:=by
    intro i hir j hj
    have hi:=List.mem_range.1 (List.mem_filter.1 hir).1
    generalize hk:i=k at hj
    induction hj with
    | edge h1 h2 h3=>
     subst hk
     rename_i o e
     have:o=opsA[i]:=by
      have g1':opsA[i]? =some o:=by simpa using h1
      rw[show opsA[i]? =some opsA[i] by simp[hi]] at g1'
      cases g1';rfl
     subst this
     exact hedge i hir hi _ h2 h3
    | trans h1 h2 ih1 ih2=>exact hcl _ _ h1 (ih2 hk)
   refine⟨fun hr=> ?_,fun i hir=> ?_⟩
   ·exfalso
    obtain⟨i,him,hi⟩:=hex
    have:∀i,i<m→l.getD i false=true:=by
     intro i
     induction i using Nat.strongRecOn with
     | _ i ihh=>
      intro him
      cases hl:l.getD i false with
      | true=>rfl
      | false=>
       exfalso
       have hio:i<opsA.size:=by omega
       have:i∈Region.ready .any opsA l:=by
        refine List.mem_filter.2 ⟨List.mem_range.2 hio,?_⟩
        have hl2:l.getD i true=false:=by
         have:i<l.size:=by omega
         simp[this] at hl ⊢
         exact hl
        rw[hl2,show opsA[i]? =some opsA[i] by simp[hio]]
        simp only[Bool.not_false,Bool.true_and,Option.map_some,Option.getD_some]
        rw[←Array.all_toList]
        refine List.all_eq_true.2 fun e he=> ?_
        have h1:=fQ hE i opsA[i] (by simp[hio])
        have h2:=List.all_eq_true.1 h1 e he
        cases hb:Region.binds .any e with
        | false=>simp
        | true=>
         rw[hb] at h2
         simp only[Bool.not_true,Bool.false_or,Nat.zero_add] at h2
         have hlt:e.on+1≤i:=Nat.le_of_ble_eq_true h2
         simp only[Bool.not_true,Bool.false_or]
         exact ihh e.on (by omega) (by omega)
       rw[hr] at this
       cases this
    rw[this i him] at hi;cases hi
   ·have hio:=List.mem_range.1 (List.mem_filter.1 hir).1
    have him:i<m:=by
     rcases Nat.lt_or_ge i m with h | h
     ·exact h
     ·exfalso
      obtain⟨j,hjm,hj⟩:=hex
      rw[hpre i hir j (pre_of_cut hcut h (by simpa using hio) (by omega))] at hj
      cases hj
    have hil:l.getD i true=false:=by
     have:=(List.mem_filter.1 hir).2
     simp only[Bool.and_eq_true] at this
     simpa using this.1
    have hil':l.getD i false=false:=by
     have hi':i<l.size:=by omega
     simp[hi'] at hil ⊢;exact hil
    have hol:(opsA.toList.take m)[i]? =some opsA[i]:=by
     rw[List.getElem?_take,if_pos him]
     simp[hio]
    have hset:∀j,(l.setIfInBounds i true).getD j false=(l.getD j false||Nat.beq j i):=by
     intro j
     by_cases hj:j=i
     ·subst hj
      have hi':j<l.size:=by omega
      simp[hi']
     ·have:Nat.beq j i=false:=by
       cases hb:Nat.beq j i with
       | false=>rfl
       | true=>exact absurd (Nat.eq_of_beq_eq_true hb) hj
      rw[this,Bool.or_false]
      simp[Array.getElem?_setIfInBounds_ne (Ne.symm hj)]
    have hstep:wpOp P (opsA.toList.take m).toArray Q i (wpAny P .any opsA Q fuel (l.setIfInBounds i true)) a w:=by
     refine any_step hT c (opsA:=(opsA.toList.take m).toArray) (by simp) hol hil' (fun j k hp=>hcl j k hp.of_take) (fun j hp=>hpre i hir j hp.of_take) h0 hI ?_
     intro a' w' hI'
     refine ih _ a' w' (by simpa using hs) ?_ ?_ ?_ ?_
     ·have:=unl_set hil;omega
     ·intro j k hjk hk
      rw[hset] at hk ⊢
      rw[Bool.or_eq_true] at hk ⊢
      rcases hk with hk | hk
      ·exact .inl (hcl j k hjk hk)
      ·have:=Nat.eq_of_beq_eq_true hk
       subst this
       exact .inl (hpre k hir j hjk)
     ·intro j hj
      rw[hset,hno j hj,Bool.false_or]
      cases hb:Nat.beq j i with
      | false=>rfl
      | true=>have:=Nat.eq_of_beq_eq_true hb;omega
     ·rw[show(fun j=>(l.setIfInBounds i true).getD j false)=(fun j=>l.getD j false||Nat.beq j i) from funext hset]
      exact hI'
    unfold wpOp at hstep ⊢
    have ho:opsA[i]? =some opsA[i]:=by simp[hio]
    have ho':(opsA.toList.take m).toArray[i]? =some opsA[i]:=by simpa using hol
    rw[ho'] at hstep
    rw[ho]
    simp only at hstep ⊢
    rw[wanted_take ho him hcut]
    exact hstep
theorem Runs.cutRegion (hm:P.follows .mixedOrders=true) {F id:Nat} {opsA:Array Oper} {tm tm':List SV} {mem mem':List Blk} {Post:Ex→List SV→List Blk→Prop} (m:Nat) {orc orc':Orc} {cs:Cst}
  (h:o8 Γ T (opsA.toList.take m) ⟨tm,mem,orc⟩=some (⟨tm',mem',orc'⟩,cs)) (hc:Holds cs) (hcut:(l6 opsA.toList m&&Nat.ble m opsA.size)=true)
  (hp:aS P G F opsA (opsA.toList.drop m) tm' mem' Post):aF P G F (.region id opsA true) tm mem Post:=by
 intro N w0 β a w Q hF hr hQ
 rw[Bool.and_eq_true] at hcut
 obtain⟨hcut,hmn⟩:=hcut
 have hmn:=Nat.le_of_ble_eq_true hmn
 unfold o8 at h
 split at h<;>try cases h
 rename_i E idE orc2 c' hany
 split at h<;>cases h
 rename_i hchk
 simp only[Bool.and_eq_true] at hchk
 obtain⟨tr,len⟩:=rQ (opsA.toList.take m) 0 [] _ _ _ _ _ _ hany hc rfl (fun j o h=>by simpa using h) .nil
 have c:Chk Γ T (opsA.toList.take m) tm mem E idE:=⟨tr,by simpa using len,hchk.1,hchk.2.1,hchk.2.2.1,hchk.2.2.2.1,hchk.2.2.2.2⟩
 refine wp_region_any hm ?_
 have hE0:EL E (fun j=>(Array.replicate opsA.size false).getD j false)=[]:=by
  unfold EL
  refine List.filter_eq_nil_iff.2 fun e he=> ?_
  simp only[Array.getD_eq_getD_getElem?,Array.getElem?_replicate]
  split<;>simp
 have hmem0:fC mem []=fun k=>mem[k]? :=by funext k;rfl
 refine any_cut (N:=N) (w0:=w0) hT c hcut hmn hr.ids ?_ opsA.size _ a _ (by simp) ?_ ?_ ?_ ?_
 ·intro a' w' hI
  obtain⟨β',hdef,hsz,htm,hmem,hids,hst⟩:=hI
  have hE1:EL E (fun _=>true)=E:=by simp[EL]
  rw[hE1] at htm hmem hids hst
  refine hp N w0 β' a' w' Q hF ⟨?_,hdef,?_,?_⟩ hQ
  ·apply Array.ext'
   apply List.ext_getElem?
   intro t
   simp only[tmF,List.map_map]
   rw[List.getElem?_map]
   rcases Nat.lt_or_ge t tm.length with h | h
   ·rw[List.getElem?_range h]
    have:=htm t
    have hlt:t<a'.tmps.size:=by omega
    simp only[Act.eval] at this
    simp only[Option.map_some,Function.comp]
    rw[←this]
    simp[hlt]
   ·rw[List.getElem?_eq_none (by simp;omega),List.getElem?_eq_none (by simp;omega)];rfl
  ·rw[memF_eq c];exact hmem
  ·intro v hv k hk
   obtain⟨t,ht,rfl⟩:=List.mem_map.1 hv
   have:=hids t k hk
   have:=(um c k).1 this
   simpa [memF] using this
 ·unfold unl;simp
 ·intro j k _ hk
  simp only[Array.getD_eq_getD_getElem?,Array.getElem?_replicate] at hk
  split at hk<;>simp at hk
 ·intro j hj
  simp only[Array.getD_eq_getD_getElem?,Array.getElem?_replicate]
  split<;>rfl
 ·refine⟨β,hr.defers,?_,?_,?_,?_,?_⟩
  ·have:=hr.tmps;simp only at this;rw[this];simp
  ·intro t
   rw[hE0]
   exact kW hr.tmps (.tmp t)
  ·rw[hE0,hmem0]
   exact hr.mem.drawn
  ·intro t k hk
   rw[hE0] at hk ⊢
   rw[hmem0]
   have hk:k∈(jm tm (.tmp t)).ids:=hk
   have:=qZ hr.ids (.tmp t) k hk
   simp only at this
   simp[this]
  ·intro e he
   rw[hE0] at he
   cases he
theorem Runs.cutX (hm:P.follows .mixedOrders=true) {F id:Nat} {opsA:Array Oper} {tm:List SV} {mem:List Blk} {Post:Ex→List SV→List Blk→Prop} (m:Nat) {orc:Orc} {cs:Cst} {mask:List (Option SV)} {mem2:List Blk}
  (h:outXL mem2.length mask (o8 Γ T (opsA.toList.take m) ⟨tm,mem,orc⟩)=some (live mask,mask.length,mem2,cs)) (hc:Holds cs) (hcut:(l6 opsA.toList m&&Nat.ble m opsA.size)=true)
  (hi:gU mem2.length mask mem2=true) (hF:Nat.ble F mem2.length=true) (hp:∀g,aS P G F opsA (opsA.toList.drop m) (fill g 0 mask) mem2 Post):aF P G F (.region id opsA true) tm mem Post:=by
 unfold outXL at h
 split at h<;>try cases h
 rename_i s c' he
 simp only[Option.some.injEq,Prod.mk.injEq] at h
 obtain⟨h1,h2,h3,rfl⟩:=h
 refine Runs.cutRegion hT hm m he hc hcut (aS.qR (Γ:=Γ) (tm':=s.tm) (mem':=s.mem) (orc':=[]) hT 0 rfl trivial (S:=fun g=>(fill g 0 mask,mem2)) ⟨fun k=>k,mask,mem2,fun g=>rfl,?_,h2.symm,?_,hi,?_⟩ hp)
 ·refine kP _ mask s.tm h2 ?_
  rw[h1]
  conv=>lhs;rw[←List.map_id (live mask)]
  exact List.map_congr_left fun v _=>(SV.jT v).symm
 ·refine lq mem2 0 fun i b hb=> ?_
  have e1:b.ren (fun k=>k)=b:=by unfold Blk.ren;rw[Row.jT]
  rw[e1,Nat.zero_add]
  rw[←h3] at hb
  rw[List.getElem?_take] at hb
  split at hb
  ·exact hb
  ·cases hb
 ·unfold inj
  simp only[Bool.and_eq_true,List.all_eq_true,List.mem_range,Bool.or_eq_true,Bool.not_eq_true']
  refine⟨⟨fun i _ j _=> ?_,fun i _=>Nat.beq_refl i⟩,hF⟩
  cases Nat.beq i j
  ·exact .inl rfl
  ·exact .inr rfl
end
structure CloA where
 ys:List Value
 n:Nat
 c:Nat
 v:Int
def cloK (k0 k1 k:Nat):Nat→Nat
 | 0=>k0
 | 1=>k1
 | _=>k
def cloS (b:Nat):Nat→Nat
 | 0=>0
 | 1=>0
 | _=>b
def cloX (c:Nat):Nat→Option Nat
 | 0=>none
 | 1=>none
 | _=>some c
def cloB (x:CloA) (t0 t1 ty:TypeId):List Blk:=[⟨false,t0,.lit [.sld 2 0 0 x.n x.c]⟩,⟨false,t1,.lit [.v (.int .i64 x.v)]⟩,⟨false,ty,.prv x.ys⟩]
structure CloP (α:Type) where
 pick:List SV→Option (Nat × Nat × α)
 largs:α→List SV
 ids:∀a,∀x∈largs a,∀k∈x.ids,k<2
 den:∀args k0 k1 a,pick args=some (k0,k1,a)→(∃x∈args,k0∈x.ids)∧(∃x∈args,k1∈x.ids)∧∀β β':Nat→Loc,(β' 0).a=(β k0).a→(β' 0).s=(β k0).s→(β' 1).a=(β k1).a→(β' 1).s=(β k1).s→args.map (SV.den β)=(largs a).map (SV.den β')
def cloOf (m:PM) (k0 k1 s:Nat):Option (CloA × Nat × Nat × TypeId × TypeId × TypeId × Cst):=
 match m k0,m k1 with
 | some ⟨_,t0,.lit [.sld k b o n c]⟩,some ⟨_,t1,.lit [.v (.int .i64 v)]⟩=>match m k with
  | some bl=>match bl.row.valsL with
   | some vs=>some (⟨(vs.drop (b+o)).take (n*s),n,c,v⟩,k,b+o,t0,t1,bl.ty,[b+o+n*s≤vs.length])
   | none=>none
  | none=>none
 | _,_=>none
def Con.clo {G:Glob} {P:Program} {T:Ty} (hT:T.ok P) (f:FuncId) (fn:Func) (hf:P.funcs[f]? =some fn) (h1:(fn.name== "runtime.NumGoroutine")=false) {c:Code} (hb:fn.body=some c) (s:Nat) {α:Type} (A:CloP α)
  (spec:α→CloA→Option (SV × Cst)) (good:∀a x r p,spec a x=some (r,p)→r.ids=[])
  (run:∀a x t0 t1 ty r p,spec a x=some (r,p)→Holds p→x.ys.length=x.n*s→aF P G 3 c (aK fn (A.largs a)) (cloB x t0 t1 ty) (aH T fn (bJ r .none))):Con P G where
 f:=f
 spec:=fun m _ args=>match A.pick args with
  | some (k0,k1,a)=>match cloOf m k0 k1 s with
   | some (x,k,b,t0,t1,ty,c1)=>match spec a x with
    | some (r,p)=>some (r,.none,c1++p)
    | none=>none
   | none=>none
  | none=>none
 ok:=fun m fr args r' e' cs N w0 β w h hc hm hf0 hids=>by
  refine .inl ⟨iX hf h1 (by rw[hb];rfl) _ w,?_⟩
  split at h<;>try cases h
  rename_i k0 k1 a hp
  split at h<;>try cases h
  rename_i x k b t0 t1 ty c1 hcl
  split at h<;>cases h
  rename_i p hsp
  obtain⟨hc1,hcp⟩:=aV hc
  unfold cloOf at hcl
  split at hcl<;>try cases hcl
  rename_i w1 t0' k' b' o n cp w2 t1' v hm0 hm1
  split at hcl<;>try cases hcl
  rename_i bl hbl
  split at hcl<;>cases hcl
  rename_i vs hvs
  obtain⟨hle,_⟩:=hc1
  have hlen:((vs.drop (b'+o)).take (n*s)).length=n*s:=by rw[List.length_take,List.length_drop];omega
  have hh:Hand m (cloK k0 k1 k) (cloS (b'+o)) (cloX cp) (cloB ⟨(vs.drop (b'+o)).take (n*s),n,cp,v⟩ t0 t1 bl.ty):=by
   refine⟨fun i b hb=> ?_,fun i j b c hb hc ho=> ?_⟩
   ·match i,hb with
    | 0,hb=>
     simp only[cloB,List.getElem?_cons_zero,Option.some.injEq] at hb
     subst hb
     refine⟨_,hm0,rfl,.inr ⟨rfl,rfl,rfl,fun β n' C hC=> ?_,fun j hj=> ?_⟩⟩
     ·have hC:C=[(Atom.sld k b' o n cp).den β]:=hC
      show C=[(Atom.sld 2 0 0 n cp).den _]
      rw[hC]
      simp[Atom.den,gB,cloK,cloS,Loc.at]
     ·simp only[Row.ids,bL,Atom.ids,List.append_nil,List.mem_singleton] at hj
      subst hj
      simp[cloB]
    | 1,hb=>
     simp only[cloB,List.getElem?_cons_succ,List.getElem?_cons_zero,Option.some.injEq] at hb
     subst hb
     exact⟨_,hm1,rfl,.inl ⟨rfl,.inl ⟨rfl,rfl,fun _ _ _ h=>h,fun h=>by cases h⟩⟩⟩
    | 2,hb=>
     simp only[cloB,List.getElem?_cons_succ,List.getElem?_cons_zero,Option.some.injEq] at hb
     subst hb
     refine⟨bl,hbl,rfl,.inl ⟨rfl,.inr (.inr ⟨rfl,fun β n' C hC=> ?_⟩)⟩⟩
     obtain⟨tail,rfl⟩:=Row.tX hvs β n' C hC
     refine⟨vs.take (b'+o),vs.drop (b'+o)++tail,by rw[←List.append_assoc,List.take_append_drop],by rw[List.length_take];show min (b'+o) vs.length=b'+o;omega,fun n''=>⟨((vs.drop (b'+o)).drop (n*s))++tail,?_⟩⟩
     rw[←List.append_assoc,List.take_append_drop]
    | i+3,hb=>simp[cloB] at hb
   ·have:b∈cloB ⟨(vs.drop (b'+o)).take (n*s),n,cp,v⟩ t0 t1 bl.ty:=List.mem_of_getElem? hb
    simp only[cloB,List.mem_cons,List.not_mem_nil,or_false] at this
    rcases this with rfl | rfl | rfl<;>cases ho
  obtain⟨i0,i1,hden⟩:=A.den args k0 k1 a hp
  rw[hden β (gB β (cloK k0 k1 k) (cloS (b'+o)) (cloX cp)) rfl (by simp[gB,cloK,cloS]) rfl (by simp[gB,cloK,cloS])]
  refine(oM hT hf hb hh hm (fun x hx i hi=> ?_) (run a _ t0 t1 bl.ty _ _ hsp hcp hlen)).mono ?_
  ·have:=A.ids a x hx i hi
   simp only[cloB,List.length_cons,List.length_nil]
   omega
  ·rintro en w' ⟨β',rr,m',hq,rfl,hβ,hm'⟩
   have hq:rr=_:=hq
   subst hq
   have hg:=good _ _ _ _ hsp
   refine⟨β,?_,fun _ _=>rfl,(oq hm (fun b hb=> ?_) hm').1,fun i hi=> ?_⟩
   ·exact congrArg Ending.returned (fE _ fun i hi=>by rw[hg] at hi;cases hi)
   ·simp only[cloB,List.mem_cons,List.not_mem_nil,or_false] at hb
    rcases hb with rfl | rfl | rfl<;>rfl
   ·rw[hg] at hi;cases hi
 loc:=fun m m' fr fr' args r e c hm hd h hn=>by
  split at h<;>try cases h
  rename_i k0 k1 a hp
  obtain⟨⟨x0,hx0,i0⟩,⟨x1,hx1,i1⟩,_⟩:=A.den args k0 k1 a hp
  have e0:m' k0=m k0:=hm x0 hx0 k0 i0
  have e1:m' k1=m k1:=hm x1 hx1 k1 i1
  have:cloOf m' k0 k1 s=cloOf m k0 k1 s:=by
   unfold cloOf
   rw[e0,e1]
   split
   ·rename_i w1 t0' k' b' o n cp w2 t1' v hm0 hm1
    rw[hd x0 hx0 k0 i0 _ hm0 k' (by simp[Row.ids,bL,Atom.ids])]
   ·rfl
  simp only[this]
  exact h
 upd:=fun m fr args r k row c h=>by
  split at h<;>try cases h
  split at h<;>try cases h
  split at h<;>cases h
def CloP.lit:CloP Int where
 pick
  | [.o (.a (.v (.int .i64 i))),.o (.a (.ptr k0 0)),.o (.a (.ptr k1 0))]=>some (k0,k1,i)
  | _=>none
 largs i:=[.o (.a (.v (.int .i64 i))),.o (.a (.ptr 0 0)),.o (.a (.ptr 1 0))]
 ids a x hx k hk:=by
  simp only[List.mem_cons,List.not_mem_nil,or_false] at hx
  rcases hx with rfl | rfl | rfl
  ·cases hk
  ·simp only[SV.ids,SV1.ids,Atom.ids,List.mem_singleton] at hk;omega
  ·simp only[SV.ids,SV1.ids,Atom.ids,List.mem_singleton] at hk;omega
 den args k0 k1 a h:=by
  split at h<;>cases h
  refine⟨⟨.o (.a (.ptr k0 0)),by simp,by simp[SV.ids,SV1.ids,Atom.ids]⟩,⟨.o (.a (.ptr k1 0)),by simp,by simp[SV.ids,SV1.ids,Atom.ids]⟩,fun β β' h0 h1 h2 h3=> ?_⟩
  simp[SV.den,SV1.den,Atom.den,Loc.at,h0,h1,h2,h3]
def CloP.fn (g:Nat):CloP Int where
 pick
  | [.o (.a (.v (.int .i64 i))),.o (.a (.fn f [(k0,0),(k1,0)]))]=>if f=g then some (k0,k1,i) else none
  | _=>none
 largs i:=[.o (.a (.v (.int .i64 i))),.o (.a (.fn g [(0,0),(1,0)]))]
 ids a x hx k hk:=by
  simp only[List.mem_cons,List.not_mem_nil,or_false] at hx
  rcases hx with rfl | rfl
  ·cases hk
  ·simp only[SV.ids,SV1.ids,Atom.ids,List.map_cons,List.map_nil,List.mem_cons,List.not_mem_nil,or_false] at hk;omega
 den args k0 k1 a h:=by
  split at h<;>try cases h
  split at h<;>cases h
  rename_i hg
  subst hg
  refine⟨⟨_,List.mem_cons_of_mem _ (List.mem_singleton.2 rfl),by simp[SV.ids,SV1.ids,Atom.ids]⟩,⟨_,List.mem_cons_of_mem _ (List.mem_singleton.2 rfl),by simp[SV.ids,SV1.ids,Atom.ids]⟩,fun β β' h0 h1 h2 h3=> ?_⟩
  simp[SV.den,SV1.den,Atom.den,Loc.at,h0,h1,h2,h3]
end Go.Eng
