/- What a tree is opened at tells, under its root, what stands there. Plain. -/
import Derived.Test.YtdccehmekkcheaaDoorCDsF
import Derived.Test.YtdccehmekkcheaaDoorCTrFo
set_option linter.unusedSimpArgs false
set_option linter.unusedVariables false
namespace Go.Proofs.YtdccehmekkcheaaDoor
open Go Go.Eng Go.RowKit
set_option maxRecDepth 100000
theorem Wit.cov {H:Nd→Nd→B32} (hH:∀a b,BOk (H a b)) {L P:List Nd} {ls:List B32} (hL:Ap L) (h:Wit H true L L ls P):Cov H P L:=by
 refine⟨fun p hp=> ?_,fun p hp=> ?_,fun n hn=> ?_⟩
 ·obtain⟨A,a1,_,rfl,_⟩:=h.is p hp
  conv=>lhs;rw[a1.eq]
 ·obtain⟨A,a1,_,rfl,_⟩:=h.is p hp
  obtain⟨n,hn⟩:=List.exists_mem_of_ne_nil A a1.ne
  exact⟨n,a1.sub.subset hn,nG H hH (hL.sub a1.sub) hn⟩
 ·rcases h.all n hn with q | ⟨q,_⟩
  ·exact q
  ·cases q
theorem scan_none {x:B32}:∀{P:List Nd},(∀p∈P,holdsV p x=false)→oz P x=(zB,false,0)
 | [],_=>rfl
 | p::r,h=>by
  rw[oz,h p (by simp),cond_false]
  exact scan_none fun q hq=>h q (by simp[hq])
theorem scan_hit {x:B32} {p:Nd} (hp:holdsV p x=true) (hl:p.len=256):∀{P:List Nd},p∈P→(∀q∈P,holdsV q x=true→q=p)→oz P x=(p.hash,true,0)
 | [],h,_=>by cases h
 | q::r,h,hu=>by
  rw[oz]
  cases hq:holdsV q x with
  | true=>
   have e:=hu q (by simp) hq
   rw[e,cond_true,hl]
   rfl
  | false=>
   rw[cond_false]
   rcases List.mem_cons.1 h with rfl | h
   ·rw[hp] at hq;cases hq
   ·exact scan_hit hp hl h fun q hq=>hu q (by simp[hq])
theorem mem_tnd {l:List Lf} {n:Nd}:n∈bq l↔∃z∈l,bP z=n:=by rw[(nV l).mem_iff,List.mem_map]
theorem back {L:List Lf} (hL:bI L) (h0:L≠[]) (hd:fK L L.length=false) (E:B32) (S:Nd→B32) {x:B32} (hx:BOk x):
  (rofT hV E S L).2=0∧(∀z∈L,z.lab=x→nL hV E S (rofT hV E S L).1 (opT hV L x) x=((bP z).hash,true,0))∧
   ((∀z∈L,z.lab≠x)→nL hV E S (rofT hV E S L).1 (opT hV L x) x=(zB,false,0)):=by
 have hap:=kN hL hd
 have hA:=(gF (iV hL)).1 hap
 have hne:bq L≠[]:=by rw[←List.length_pos_iff,je,List.length_pos_iff];exact h0
 have eW:opT hV L x=bT hV true (bq L) [x]:=nZ hV gW true hA _
 have W:=o7 hV gW true hA hne [x]
 rw[←eW] at W
 generalize opT hV L x=P at W
 have hP:=Wit.ap hV gW hA W
 have hPa:=(gF hP.ok).2 hP
 have hcv:=W.cov gW hA
 have hPne:P≠[]:=fun e=>by
  obtain⟨n,hn⟩:=List.exists_mem_of_ne_nil _ hne
  obtain⟨p,hp,_⟩:=hcv.all n hn
  rw[e] at hp;cases hp
 have ej:=uL hV P.length P (bq L) (Nat.le_refl _) hP hA hPne hcv
 have rP:bO hV E S P=rofT hV E S L:=by
  unfold rofT bO
  rw[hap,hPa,cond_true,cond_true,beq0_f (fun e=>hPne (List.length_eq_zero_iff.1 e)),beq0_f (fun e=>hne (List.length_eq_zero_iff.1 e)),cond_false,cond_false,ej]
 have r2:(rofT hV E S L).2=0:=by
  unfold rofT bO
  rw[hap,cond_true,beq0_f (fun e=>hne (List.length_eq_zero_iff.1 e)),cond_false]
 have hf:nL hV E S (rofT hV E S L).1 P x=oz P x:=by
  unfold nL
  rw[rP,r2,uF]
  rfl
 have key:∀p∈P,holdsV p x=true→p∈bq L∧p.pre=x∧p.len=256:=fun p hp hh=>by
  obtain⟨A,a1,_,rfl,q⟩:=W.is p hp
  rcases q with q | ⟨_,q⟩
  ·rw[q x (by simp)] at hh;cases hh
  ·rw[join_one hV q] at hh ⊢
   have hm:=a1.sub.subset (dV (show 0<A.length by omega) zn)
   obtain⟨z,hz,e⟩:=mem_tnd.1 hm
   have hl:(A.getD 0 zn).len=256:=by rw[←e];rfl
   have hc:=(kS (hA.good _ hm) x).1 hh
   rw[hl] at hc
   have:bN (A.getD 0 zn).pre x=256:=Nat.le_antisymm (oQ _ _) hc
   exact⟨hm,vG (hA.ok _ hm).1 hx this,hl⟩
 refine⟨r2,fun z hz e=> ?_,fun h=> ?_⟩
 ·rw[hf]
  have hm:bP z∈bq L:=mem_tnd.2 ⟨z,hz,rfl⟩
  have ez:(bP z).pre=x:=e
  obtain⟨p,hp,hh⟩:=hcv.all _ hm
  rw[ez] at hh
  obtain⟨k1,k2,k3⟩:=key p hp hh
  have hz1:holdsV (bP z) x=true:=by
   rw[←ez,kS (hA.good _ hm),nY]
   show(256:Int).toNat≤256
   omega
  have ep:p=bP z:=held_one hA k1 hm hh hz1
  rw[ep] at hp
  exact scan_hit hz1 rfl hp fun q hq hqx=>held_one hA (key q hq hqx).1 hm hqx hz1
 ·rw[hf]
  refine scan_none fun p hp=> ?_
  cases hh:holdsV p x with
  | false=>rfl
  | true=>
   obtain⟨k1,k2,_⟩:=key p hp hh
   obtain⟨z,hz,rfl⟩:=mem_tnd.1 k1
   exact absurd k2 (h z hz)
end Go.Proofs.YtdccehmekkcheaaDoor
