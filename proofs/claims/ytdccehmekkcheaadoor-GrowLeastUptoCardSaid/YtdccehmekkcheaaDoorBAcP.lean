/- What stays of one list beside another that is apart from it: both roots are told. Plain. -/
import Derived.Test.YtdccehmekkcheaaDoorBGaw
namespace Go.Proofs.YtdccehmekkcheaaDoor
open Go Go.Eng Go.RowKit
set_option linter.unusedVariables false
set_option linter.unusedSimpArgs false
set_option maxRecDepth 100000
namespace acp
def Sep (a b:Nd):Prop:=(comV a.pre b.pre:Int)<a.len∧(comV a.pre b.pre:Int)<b.len
theorem Sep.symm {a b:Nd} (h:Sep a b):Sep b a:=by
 unfold Sep at*
 rw[com_comm]
 exact⟨h.2,h.1⟩
theorem Sep.ne {a b:Nd} (ha:GoodP a) (h:Sep a b):NeP a b:=fun e=>by
 have h1:=h.1
 have e:a.pre=b.pre:=e
 rw[e,com_self] at h1
 have:=ha.hi
 omega
theorem cov0 {L P:List Nd} {ls:List B32} (hL:Ap L) (h:Wit hV false L L ls P) (hn:∀n∈L,∀x∈ls,holdsV n x=false):Cov hV P L:=by
 refine⟨fun p hp=> ?_,fun p hp=> ?_,fun n hm=> ?_⟩
 ·obtain⟨A,a1,_,rfl,_⟩:=h.is p hp
  conv=>lhs;rw[a1.eq]
 ·obtain⟨A,a1,_,rfl,_⟩:=h.is p hp
  obtain⟨n,hn⟩:=List.exists_mem_of_ne_nil A a1.ne
  exact⟨n,a1.sub.subset hn,join_of_mem hV hV_ok (hL.sub a1.sub) hn⟩
 ·rcases h.all n hm with q | ⟨_,x,hx,hh⟩
  ·exact q
  ·rw[hn n hm x hx] at hh;cases hh
theorem memT {l:List Lf} {n:Nd}:n∈tndV l↔∃z∈l,leafV z=n:=by rw[(tnd_perm l).mem_iff,List.mem_map]
theorem apT {l:List Lf} (h:AllL l) (hn:(l.map leafV).Pairwise NeP):Ap (tndV l):=(ap_iff (tnd_ok h)).1 (tnd_apart h (ne_dup hn _ (Nat.le_refl _)))
theorem stay {X Y:List Lf} (hX:AllL X) (hY:AllL Y) (hne:((X++Y).map leafV).Pairwise NeP):
  Ap (stT hV X Y)∧Cov hV (stT hV X Y) (tndV X)∧∀p∈stT hV X Y,∀x∈labs Y,holdsV p x=false:=by
 have hA:=apT hX (ne_left hne)
 rcases X with _ | ⟨z,X⟩
 ·have e:stT hV [] Y=[]:=by unfold stT;rw[tnd_nil];rfl
  rw[e,tnd_nil]
  exact⟨⟨fun n hn=>(by cases hn),List.Pairwise.nil,fun n hn=>(by cases hn)⟩,⟨fun n hn=>(by cases hn),fun n hn=>(by cases hn),fun n hn=>(by cases hn)⟩,fun n hn=>(by cases hn)⟩
 ·have h0:tndV (z::X)≠[]:=by rw[←List.length_pos_iff,tnd_len];exact Nat.succ_pos _
  have e:stT hV (z::X) Y=witV hV false (tndV (z::X)) (labs Y):=aroV_wit hV hV_ok false hA _
  have W:=witV_spec hV hV_ok false hA h0 (labs Y)
  rw[←e] at W
  refine⟨Wit.ap hV hV_ok hA W,cov0 hA W fun n hn x hx=> ?_,fun p hp=> ?_⟩
  ·obtain⟨y,hy,rfl⟩:=memT.1 hn
   exact not_held hX hY hne hy x hx
  ·obtain⟨A,_,_,_,q | ⟨q,_⟩⟩:=W.is p hp
   ·exact q
   ·cases q
theorem one_of {a:Nd}:∀{A:List Nd},a∈A→(∀n∈A,n=a)→A.Pairwise NeP→A=[a]
 | [],h,_,_=>by cases h
 | [x],_,h,_=>by rw[h x (by simp)]
 | x::y::r,_,h,hp=>by
  have h1:=h x (by simp)
  have h2:=h y (by simp)
  have h3:=(List.pairwise_cons.1 hp).1 y (by simp)
  rw[h1,h2] at h3
  exact absurd rfl h3
end acp
end Go.Proofs.YtdccehmekkcheaaDoor
