/- What stays of one list beside another that is apart from it: both roots are told. Plain. -/
import Derived.Test.YtdccehmekkcheaaDoorCGaw
set_option linter.unusedSimpArgs false
set_option linter.unusedVariables false
namespace Go.Proofs.YtdccehmekkcheaaDoor
open Go Go.Eng Go.RowKit
set_option maxRecDepth 100000
namespace acp
def Sep (a b:Nd):Prop:=(bN a.pre b.pre:Int)<a.len∧(bN a.pre b.pre:Int)<b.len
theorem Sep.symm {a b:Nd} (h:Sep a b):Sep b a:=by
 unfold Sep at*
 rw[uM]
 exact⟨h.2,h.1⟩
theorem Sep.ne {a b:Nd} (ha:nU a) (h:Sep a b):NeP a b:=fun e=>by
 have h1:=h.1
 have e:a.pre=b.pre:=e
 rw[e,nY] at h1
 have:=ha.hi
 omega
theorem ap_sort {M:List Nd} (hk:bg M) (hg:∀n∈M,nU n) (hs:M.Pairwise Sep):Ap (bX M):=by
 have hp:=mQ M
 have hk':=srt_ok hk
 have hg':∀n∈bX M,nU n:=fun n hn=>hg n (hp.mem_iff.1 hn)
 have hs':(bX M).Pairwise Sep:=hs.perm hp.symm fun {x y} h=>Sep.symm h
 refine⟨hg',?_,hk'⟩
 refine((srt_pair hk).and hs').imp_of_mem fun {a b} ha hb h=>⟨?_,h.2.1,h.2.2⟩
 rcases lt_tri (hk' a ha).1 (hk' b hb).1 (h.2.ne (hg' a ha)) with q | q
 ·exact q
 ·have h1:=h.1
  unfold LeP at h1
  rw[h1] at q
  cases q
theorem cov0 {L P:List Nd} {ls:List B32} (hL:Ap L) (h:Wit hV false L L ls P) (hn:∀n∈L,∀x∈ls,holdsV n x=false):Cov hV P L:=by
 refine⟨fun p hp=> ?_,fun p hp=> ?_,fun n hm=> ?_⟩
 ·obtain⟨A,a1,_,rfl,_⟩:=h.is p hp
  conv=>lhs;rw[a1.eq]
 ·obtain⟨A,a1,_,rfl,_⟩:=h.is p hp
  obtain⟨n,hn⟩:=List.exists_mem_of_ne_nil A a1.ne
  exact⟨n,a1.sub.subset hn,nG hV gW (hL.sub a1.sub) hn⟩
 ·rcases h.all n hm with q | ⟨_,x,hx,hh⟩
  ·exact q
  ·rw[hn n hm x hx] at hh;cases hh
theorem root_cov {P L:List Nd} (hP:Ap P) (hL:Ap L) (hc:Cov hV P L) (E:B32) (S:Nd→B32):bO hV E S P=bO hV E S L∧(bO hV E S L).2=0:=by
 have a1:=(gF hP.ok).2 hP
 have a2:=(gF hL.ok).2 hL
 unfold bO
 rw[a1,a2,cond_true,cond_true]
 rcases P with _ | ⟨p,P⟩
 ·have:L=[]:=List.eq_nil_iff_forall_not_mem.2 fun n hn=>by
   obtain⟨p,hp,_⟩:=hc.all n hn
   cases hp
  subst this
  exact⟨rfl,rfl⟩
 ·have h0:p::P≠[]:=List.cons_ne_nil _ _
  obtain⟨n,hn,_⟩:=hc.some p (List.mem_cons_self ..)
  have hl:0<L.length:=List.length_pos_of_mem hn
  have b1:Nat.beq (p::P).length 0=false:=rfl
  have b2:Nat.beq L.length 0=false:=by rw[←Bool.not_eq_true,Nat.beq_eq];omega
  rw[b1,b2,cond_false,cond_false,uL hV _ _ _ (Nat.le_refl _) hP hL h0 hc]
  exact⟨rfl,rfl⟩
theorem memT {l:List Lf} {n:Nd}:n∈bq l↔∃z∈l,bP z=n:=by rw[(nV l).mem_iff,List.mem_map]
theorem apT {l:List Lf} (h:bI l) (hn:(l.map bP).Pairwise NeP):Ap (bq l):=(gF (iV h)).1 (kN h (qg hn _ (Nat.le_refl _)))
theorem stay {X Y:List Lf} (hX:bI X) (hY:bI Y) (hne:((X++Y).map bP).Pairwise NeP):
  Ap (stT hV X Y)∧Cov hV (stT hV X Y) (bq X)∧∀p∈stT hV X Y,∀x∈jR Y,holdsV p x=false:=by
 have hA:=apT hX (qU hne)
 rcases X with _ | ⟨z,X⟩
 ·have e:stT hV [] Y=[]:=by unfold stT;rw[kX];rfl
  rw[e,kX]
  exact⟨⟨fun n hn=>(by cases hn),List.Pairwise.nil,fun n hn=>(by cases hn)⟩,⟨fun n hn=>(by cases hn),fun n hn=>(by cases hn),fun n hn=>(by cases hn)⟩,fun n hn=>(by cases hn)⟩
 ·have h0:bq (z::X)≠[]:=by rw[←List.length_pos_iff,je];exact Nat.succ_pos _
  have e:stT hV (z::X) Y=bT hV false (bq (z::X)) (jR Y):=nZ hV gW false hA _
  have W:=o7 hV gW false hA h0 (jR Y)
  rw[←e] at W
  refine⟨Wit.ap hV gW hA W,cov0 hA W fun n hn x hx=> ?_,fun p hp=> ?_⟩
  ·obtain⟨y,hy,rfl⟩:=memT.1 hn
   exact not_held hX hY hne hy x hx
  ·obtain⟨A,_,_,_,q | ⟨q,_⟩⟩:=W.is p hp
   ·exact q
   ·cases q
theorem one_of {a:Nd}:∀{A:List Nd},a∈A→(∀n∈A,n=a)→A.Pairwise NeP→A=[a]
 | [],h,_,_=>by cases h
 | [x],_,h,_=>by rw[h x (by simp)]
 | x::y::r,_,h,hp=>by
  have h1:=h x (by simp)
  have h2:=h y (by simp)
  have h3:=(List.pairwise_cons.1 hp).1 y (by simp)
  rw[h1,h2] at h3
  exact absurd rfl h3
theorem grown {X Y:List Lf} (hX:bI X) (hY:bI Y) (hne:((X++Y).map bP).Pairwise NeP):
  Ap (bX (stT hV X Y++bq Y))∧Cov hV (bX (stT hV X Y++bq Y)) (bq (X++Y)):=by
 obtain⟨hP,hc,hh⟩:=stay hX hY hne
 have hL:=hX.app hY
 have hT:=apT hL hne
 have hneY:(Y.map bP).Pairwise NeP:=by
  rw[List.map_append,List.pairwise_append] at hne
  exact hne.2.1
 have hAY:=apT hY hneY
 have hAX:=apT hX (qU hne)
 generalize stT hV X Y=P at hP hc hh
 have hpm:=mQ (P++bq Y)
 have hmem:∀{p},p∈bX (P++bq Y)→p∈P∨∃y∈Y,bP y=p:=fun {p} hp=>by
  rcases List.mem_append.1 (hpm.mem_iff.1 hp) with h | h
  ·exact .inl h
  ·exact .inr (memT.1 h)
 have nT:(bq (X++Y)).Pairwise NeP:=ne_perm (nV _).symm hne
 refine⟨ap_sort (fun n hn=> ?_) (fun n hn=> ?_) ?_,fun p hp=> ?_,fun p hp=> ?_,fun n hn=> ?_⟩
 ·rcases List.mem_append.1 hn with h | h
  ·exact hP.ok n h
  ·exact hAY.ok n h
 ·rcases List.mem_append.1 hn with h | h
  ·exact hP.good n h
  ·exact hAY.good n h
 ·refine List.pairwise_append.2 ⟨hP.pair.imp fun h=>⟨h.2.1,h.2.2⟩,hAY.pair.imp fun h=>⟨h.2.1,h.2.2⟩,fun p hp q hq=> ?_⟩
  obtain⟨y,hy,rfl⟩:=memT.1 hq
  have h1:=hh p hp y.lab (List.mem_map_of_mem hy)
  have hg:=hP.good p hp
  have h2:bN p.pre y.lab<p.len.toNat:=Nat.lt_of_not_le fun h=>by
   rw[(kS hg _).2 h] at h1
   cases h1
  have:=hg.hi
  have:=hg.lo
  exact⟨by show(bN p.pre y.lab:Int)<p.len;omega,by show(bN p.pre y.lab:Int)<(256:Int);omega⟩
 ·rcases hmem hp with h | ⟨y,hy,rfl⟩
  ·have hf:(bq (X++Y)).filter (fun n=>holdsV p n.pre)=(bq X).filter (fun n=>holdsV p n.pre):=by
    refine uniq (fun n hn=>hT.ok n (List.mem_filter.1 hn).1) ?_ (nT.sublist List.filter_sublist) ((tnd_pair hL).sublist List.filter_sublist) ((tnd_pair hX).sublist List.filter_sublist)
    have hz:(Y.map bP).filter (fun n=>holdsV p n.pre)=[]:=List.filter_eq_nil_iff.2 fun n hn=>by
     obtain⟨y,hy,rfl⟩:=List.mem_map.1 hn
     rw[show holdsV p (bP y).pre=false from hh p h y.lab (List.mem_map_of_mem hy)]
     decide
    have q:=(nV (X++Y)).filter (fun n=>holdsV p n.pre)
    rw[List.map_append,List.filter_append,hz,List.append_nil] at q
    exact q.trans ((nV X).filter _).symm
   rw[hf]
   exact hc.is p h
  ·have hf:(bq (X++Y)).filter (fun n=>holdsV (bP y) n.pre)=[bP y]:=by
    have hy':y∈X++Y:=List.mem_append.2 (.inr hy)
    refine one_of (List.mem_filter.2 ⟨memT.2 ⟨y,hy',rfl⟩,(lK (hY y hy) (hY y hy).1).2 rfl⟩) (fun n hn=> ?_) (nT.sublist List.filter_sublist)
    obtain⟨h1,h2⟩:=List.mem_filter.1 hn
    exact held_one hT h1 (memT.2 ⟨y,hy',rfl⟩) (x:=y.lab) (by
     obtain⟨z,hz,rfl⟩:=memT.1 h1
     have e:y.lab=z.lab:=(lK (hY y hy) (hL z hz).1).1 h2
     rw[e]
     exact(lK (hL z hz) (hL z hz).1).2 rfl) ((lK (hY y hy) (hY y hy).1).2 rfl)
   rw[hf,join_one hV rfl]
   rfl
 ·rcases hmem hp with h | ⟨y,hy,rfl⟩
  ·obtain⟨n,hn,h2⟩:=hc.some p h
   obtain⟨z,hz,rfl⟩:=memT.1 hn
   exact⟨_,memT.2 ⟨z,List.mem_append.2 (.inl hz),rfl⟩,h2⟩
  ·exact⟨bP y,memT.2 ⟨y,List.mem_append.2 (.inr hy),rfl⟩,(lK (hY y hy) (hY y hy).1).2 rfl⟩
 ·obtain⟨z,hz,rfl⟩:=memT.1 hn
  rcases List.mem_append.1 hz with h | h
  ·obtain⟨p,hp,h2⟩:=hc.all _ (memT.2 ⟨z,h,rfl⟩)
   exact⟨p,hpm.mem_iff.2 (List.mem_append.2 (.inl hp)),h2⟩
  ·exact⟨bP z,hpm.mem_iff.2 (List.mem_append.2 (.inr (memT.2 ⟨z,h,rfl⟩))),(lK (hY z h) (hY z h).1).2 rfl⟩
theorem accept {X Y:List Lf} (hX:bI X) (hY:bI Y) (hne:((X++Y).map bP).Pairwise NeP) (E:B32) (S:Nd→B32):
  kH hV E S (rofT hV E S X).1 (rofT hV E S (X++Y)).1 (stT hV X Y) Y=0:=by
 obtain⟨hP,hc,_⟩:=stay hX hY hne
 obtain⟨hG,hd⟩:=grown hX hY hne
 obtain⟨e1,z1⟩:=root_cov hP (apT hX (qU hne)) hc E S
 obtain⟨e2,z2⟩:=root_cov hG (apT (hX.app hY) hne) hd E S
 unfold kH jY rofT
 rw[e1,e2,z1,z2,uF,uF]
 rfl
end acp
end Go.Proofs.YtdccehmekkcheaaDoor
