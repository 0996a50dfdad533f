/- Laws of growth: awake: contract. -/
import Derived.Test.YtdccehmekkcheaaDoorBMTI
import Derived.Test.YtdccehmekkcheaaDoorBTLa
namespace Go.Proofs.YtdccehmekkcheaaDoor
open Go Go.Eng Go.RowKit
set_option linter.unusedVariables false
set_option linter.unusedSimpArgs false
set_option maxRecDepth 100000
def lf2:Lf:=⟨⟨200,0,0,0,0,0,0,0,0,0,0,0,0,0,0,0,0,0,0,0,0,0,0,0,0,0,0,0,0,0,0,0⟩,zB⟩
theorem lf2_ok:LOk lf2:=⟨ok_of (by decide),zB_ok⟩
theorem st_eq {A B:List Lf} (hA:AllL A) (hB:AllL B) (hd:rndD (A++B) (A++B).length=false):stT hV A B=stR hV A B:=by
 have hdA:=dup_left hA hB hd
 have hap:=tnd_apart hA hdA
 unfold stT stR
 rw[rnd_tnd hA hdA]
 exact aroV_wit hV hV_ok false ((ap_iff (tnd_ok hA)).1 hap) _
theorem st_len {A B:List Lf} (hA:AllL A) (hB:AllL B) (hd:rndD (A++B) (A++B).length=false):(stR hV A B).length≤A.length:=by
 have hdA:=dup_left hA hB hd
 have:=witV_len hV hV_ok false (rnd_ap hA hdA) (labs B)
 rw[rndA_len] at this
 exact this
theorem all1 {z:Lf} (h:LOk z):AllL [z]:=fun x hx=>by rw[List.mem_singleton.1 hx];exact h
theorem lf12:rndD ([lf1]++[lf2]) ([lf1]++[lf2]).length=false:=ne_dup (List.pairwise_cons.2 ⟨fun b hb=>by
 rw[List.mem_singleton.1 hb]
 exact fun e=>absurd (congrArg B32.b0 e) (by decide),List.pairwise_singleton _ _⟩) _ (Nat.le_refl _)
namespace awk12
theorem ex (H:Nd→Nd→B32) (hH:H=hV) (E:B32) (hE':E=hE) (S:Nd→B32) (hS':S=hS):runOut ([gst.conP H hH,gck.con0 H hH E hE' S hS' ]:Cons Tryd.prog GT) tys Tryd.f42 100 [] [(6,[.dyn]),(11,[.dyn]),(20,[.b true]),(25,[.n 3])]=some (ay.enc true,[64=1*64,64=1*64,0+0+1*64≤lf1.vals.length,1≤1,0+0+1*64≤lf2.vals.length,1≤1,((lf1.vals).drop (0+0)).take (1*64)=lvals (ak (((lf1.vals).drop (0+0)).take (1*64))),(ak (((lf1.vals).drop (0+0)).take (1*64))).length=1,((lf2.vals).drop (0+0)).take (1*64)=lvals (ak (((lf2.vals).drop (0+0)).take (1*64))),(ak (((lf2.vals).drop (0+0)).take (1*64))).length=1,1+1≤4000000,AllL (ak (((lf1.vals).drop (0+0)).take (1*64))),AllL (ak (((lf2.vals).drop (0+0)).take (1*64))),aL (tndV (ak (((lf1.vals).drop (0+0)).take (1*64))++ak (((lf2.vals).drop (0+0)).take (1*64))))=true,(stT H (ak (((lf1.vals).drop (0+0)).take (1*64))) (ak (((lf2.vals).drop (0+0)).take (1*64))))≠[],(((stT H (ak (((lf1.vals).drop (0+0)).take (1*64))) (ak (((lf2.vals).drop (0+0)).take (1*64)))).length:Int)==1)=true,chkT H E S zB zB [] []=3]):=by kernel_rfl
theorem z1:((lf1.vals).drop (0+0)).take (1*64)=lvals [lf1]:=rfl
theorem z2:((lf2.vals).drop (0+0)).take (1*64)=lvals [lf2]:=rfl
theorem holds:Holds [64=1*64,64=1*64,0+0+1*64≤lf1.vals.length,1≤1,0+0+1*64≤lf2.vals.length,1≤1,((lf1.vals).drop (0+0)).take (1*64)=lvals (ak (((lf1.vals).drop (0+0)).take (1*64))),(ak (((lf1.vals).drop (0+0)).take (1*64))).length=1,((lf2.vals).drop (0+0)).take (1*64)=lvals (ak (((lf2.vals).drop (0+0)).take (1*64))),(ak (((lf2.vals).drop (0+0)).take (1*64))).length=1,1+1≤4000000,AllL (ak (((lf1.vals).drop (0+0)).take (1*64))),AllL (ak (((lf2.vals).drop (0+0)).take (1*64))),aL (tndV (ak (((lf1.vals).drop (0+0)).take (1*64))++ak (((lf2.vals).drop (0+0)).take (1*64))))=true,(stT hV (ak (((lf1.vals).drop (0+0)).take (1*64))) (ak (((lf2.vals).drop (0+0)).take (1*64))))≠[],(((stT hV (ak (((lf1.vals).drop (0+0)).take (1*64))) (ak (((lf2.vals).drop (0+0)).take (1*64)))).length:Int)==1)=true,chkT hV hE hS zB zB [] []=3]:=by
 have h1:=all1 lf1_ok
 have h2:=all1 lf2_ok
 have ne:=st_ne hV_ok h1 h2 Nat.one_pos lf12
 have le:=st_len h1 h2 lf12
 have e:=st_eq h1 h2 lf12
 have hp:=List.length_pos_iff.2 ne
 have hc:chkT hV hE hS zB zB [] []=3:=by
  unfold chkT
  rw[tnd_nil,List.append_nil,show sortL []=[] from List.eq_nil_of_length_eq_zero (sortL_len []),rrof.rootV_nil,hE_eq]
  decide
 rw[z1,z2,aY,aY,e]
 exact⟨rfl,rfl,Nat.le_refl _,Nat.le_refl _,Nat.le_refl _,Nat.le_refl _,rfl,rfl,rfl,rfl,by omega,h1,h2,tnd_apart (h1.app h2) lf12,ne,by rw[beq_iff_eq];have:[lf1].length=1:=rfl;omega,hc,trivial⟩
theorem fn:FnOk Tryd.prog GT 42 [] (ay.enc true):=FnOk.of_out aj mixed Tryd.func42 (ex hV rfl hE rfl hS rfl) holds rfl rfl
noncomputable def con:Con Tryd.prog GT:=con0 42 Tryd.f42 Tryd.func42 (by kernel_rfl) (by kernel_rfl) (ay.enc true) [] rfl (fun _=>fn)
end awk12
end Go.Proofs.YtdccehmekkcheaaDoor
