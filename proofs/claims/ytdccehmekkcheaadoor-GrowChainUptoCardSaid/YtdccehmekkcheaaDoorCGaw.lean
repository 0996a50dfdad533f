/- Laws of growth: awake: contract. -/
import Derived.Test.YtdccehmekkcheaaDoorCMTI
import Derived.Test.YtdccehmekkcheaaDoorCTLa
set_option linter.unusedSimpArgs false
set_option linter.unusedVariables false
namespace Go.Proofs.YtdccehmekkcheaaDoor
open Go Go.Eng Go.RowKit
set_option maxRecDepth 100000
def lf2:Lf:=⟨⟨200,0,0,0,0,0,0,0,0,0,0,0,0,0,0,0,0,0,0,0,0,0,0,0,0,0,0,0,0,0,0,0⟩,zB⟩
theorem lf2_ok:LOk lf2:=⟨ok_of (by decide),zB_ok⟩
theorem st_eq {A B:List Lf} (hA:bI A) (hB:bI B) (hd:fK (A++B) (A++B).length=false):stT hV A B=stR hV A B:=by
 have hdA:=dup_left hA hB hd
 have hap:=kN hA hdA
 unfold stT stR
 rw[rnd_tnd hA hdA]
 exact nZ hV gW false ((gF (iV hA)).1 hap) _
theorem st_len {A B:List Lf} (hA:bI A) (hB:bI B) (hd:fK (A++B) (A++B).length=false):(stR hV A B).length≤A.length:=by
 have hdA:=dup_left hA hB hd
 have:=qV hV gW false (rnd_ap hA hdA) (jR B)
 rw[pE] at this
 exact this
theorem all1 {z:Lf} (h:LOk z):bI [z]:=fun x hx=>by rw[List.mem_singleton.1 hx];exact h
theorem lf12:fK ([lf1]++[lf2]) ([lf1]++[lf2]).length=false:=qg (List.pairwise_cons.2 ⟨fun b hb=>by
 rw[List.mem_singleton.1 hb]
 exact fun e=>absurd (congrArg B32.b0 e) (by decide),List.pairwise_singleton _ _⟩) _ (Nat.le_refl _)
namespace awk12
theorem ex (H:Nd→Nd→B32) (hH:H=hV) (E:B32) (hE':E=hE) (S:Nd→B32) (hS':S=hS):gK ([gst.conP H hH,gck.con0 H hH E hE' S hS' ]:Cons Tryd.prog GT) tys Tryd.f42 100 [] [(6,[.dyn]),(11,[.dyn]),(20,[.b true]),(25,[.n 3])]=some (aI.enc true,[64=1*64,64=1*64,0+0+1*64≤lf1.vals.length,1≤1,0+0+1*64≤lf2.vals.length,1≤1,((lf1.vals).drop (0+0)).take (1*64)=lvals (av (((lf1.vals).drop (0+0)).take (1*64))),(av (((lf1.vals).drop (0+0)).take (1*64))).length=1,((lf2.vals).drop (0+0)).take (1*64)=lvals (av (((lf2.vals).drop (0+0)).take (1*64))),(av (((lf2.vals).drop (0+0)).take (1*64))).length=1,1+1≤4000000,bI (av (((lf1.vals).drop (0+0)).take (1*64))),bI (av (((lf2.vals).drop (0+0)).take (1*64))),bC (bq (av (((lf1.vals).drop (0+0)).take (1*64))++av (((lf2.vals).drop (0+0)).take (1*64))))=true,(stT H (av (((lf1.vals).drop (0+0)).take (1*64))) (av (((lf2.vals).drop (0+0)).take (1*64))))≠[],(((stT H (av (((lf1.vals).drop (0+0)).take (1*64))) (av (((lf2.vals).drop (0+0)).take (1*64)))).length:Int)==1)=true,kH H E S zB zB [] []=3]):=by kernel_rfl
theorem z1:((lf1.vals).drop (0+0)).take (1*64)=lvals [lf1]:=rfl
theorem z2:((lf2.vals).drop (0+0)).take (1*64)=lvals [lf2]:=rfl
theorem holds:Holds [64=1*64,64=1*64,0+0+1*64≤lf1.vals.length,1≤1,0+0+1*64≤lf2.vals.length,1≤1,((lf1.vals).drop (0+0)).take (1*64)=lvals (av (((lf1.vals).drop (0+0)).take (1*64))),(av (((lf1.vals).drop (0+0)).take (1*64))).length=1,((lf2.vals).drop (0+0)).take (1*64)=lvals (av (((lf2.vals).drop (0+0)).take (1*64))),(av (((lf2.vals).drop (0+0)).take (1*64))).length=1,1+1≤4000000,bI (av (((lf1.vals).drop (0+0)).take (1*64))),bI (av (((lf2.vals).drop (0+0)).take (1*64))),bC (bq (av (((lf1.vals).drop (0+0)).take (1*64))++av (((lf2.vals).drop (0+0)).take (1*64))))=true,(stT hV (av (((lf1.vals).drop (0+0)).take (1*64))) (av (((lf2.vals).drop (0+0)).take (1*64))))≠[],(((stT hV (av (((lf1.vals).drop (0+0)).take (1*64))) (av (((lf2.vals).drop (0+0)).take (1*64)))).length:Int)==1)=true,kH hV hE hS zB zB [] []=3]:=by
 have h1:=all1 lf1_ok
 have h2:=all1 lf2_ok
 have ne:=st_ne gW h1 h2 Nat.one_pos lf12
 have le:=st_len h1 h2 lf12
 have e:=st_eq h1 h2 lf12
 have hp:=List.length_pos_iff.2 ne
 have hc:kH hV hE hS zB zB [] []=3:=by
  unfold kH
  rw[kX,List.append_nil,show bX []=[] from List.eq_nil_of_length_eq_zero (jk []),rrof.rootV_nil,hE_eq]
  decide
 rw[z1,z2,bW,bW,e]
 exact⟨rfl,rfl,Nat.le_refl _,Nat.le_refl _,Nat.le_refl _,Nat.le_refl _,rfl,rfl,rfl,rfl,by omega,h1,h2,kN (h1.app h2) lf12,ne,by rw[beq_iff_eq];have:[lf1].length=1:=rfl;omega,hc,trivial⟩
theorem fn:dI Tryd.prog GT 42 [] (aI.enc true):=dI.dO aj mixed Tryd.func42 (ex hV rfl hE rfl hS rfl) holds rfl rfl
noncomputable def con:Con Tryd.prog GT:=con0 42 Tryd.f42 Tryd.func42 (by kernel_rfl) (by kernel_rfl) (aI.enc true) [] rfl (fun _=>fn)
end awk12
end Go.Proofs.YtdccehmekkcheaaDoor
