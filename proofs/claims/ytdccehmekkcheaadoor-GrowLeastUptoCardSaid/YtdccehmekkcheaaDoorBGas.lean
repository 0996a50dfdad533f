/- Laws of growth: the region that calls Stays. -/
import Derived.Test.YtdccehmekkcheaaDoorBFo
import Derived.Test.YtdccehmekkcheaaDoorBGap
import Derived.Test.YtdccehmekkcheaaDoorBAcP
import Derived.Test.YtdccehmekkcheaaDoorBTLa
import Derived.Test.YtdccehmekkcheaaDoorBMTI
namespace Go.Proofs.YtdccehmekkcheaaDoor
open Go Go.Eng Go.RowKit
set_option linter.unusedVariables false
set_option linter.unusedSimpArgs false
set_option maxRecDepth 100000
theorem acp.stay_ne {X Y:List Lf} (hX:AllL X) (hY:AllL Y) (hne:((X++Y).map leafV).Pairwise NeP) (h0:X≠[]):stT hV X Y≠[]:=fun e=>by
 obtain⟨_,hc,_⟩:=acp.stay hX hY hne
 obtain⟨z,hz⟩:=List.exists_mem_of_ne_nil X h0
 obtain⟨p,hp,_⟩:=hc.all (leafV z) (acp.memT.2 ⟨z,hz,rfl⟩)
 rw[e] at hp
 cases hp
namespace lglt
noncomputable def R4:Code:=cs1 (csuf 3 body)
noncomputable def i4:Nat:=match R4 with | .region i _ _=>i | _=>0
theorem reg4:R4= .region i4 (opsOf R4) false:=by kernel_rfl
theorem nil4:((opsOf R4).toList.drop 2).drop 8=[]:=by kernel_rfl
noncomputable def ΓaP:Cons Tryd.prog GT:=[cpl12.conP]
noncomputable def ΓbPP (H:Nd→Nd→B32) (hH:H=hV):Cons Tryd.prog GT:=[cpl12.conP,gst.conP H hH]
noncomputable def ΓbPZ (H:Nd→Nd→B32) (hH:H=hV):Cons Tryd.prog GT:=[cpl12.conP,gst.conZ H hH]
noncomputable def ΓaZ:Cons Tryd.prog GT:=[cpl12.conZ]
noncomputable def ΓbZP (H:Nd→Nd→B32) (hH:H=hV):Cons Tryd.prog GT:=[cpl12.conZ,gst.conP H hH]
noncomputable def ΓbZZ (H:Nd→Nd→B32) (hH:H=hV):Cons Tryd.prog GT:=[cpl12.conZ,gst.conZ H hH]
namespace ww
def m8 (A:List Lf) (ty:TypeId) (B:List Lf) (ty2:TypeId):List Blk:=[⟨false,ty,.prv (lvals A)⟩,⟨false,ty2,.prv (lvals B)⟩,⟨true,30,.lit []⟩]
def M8:List (Option SV):=aD 103 0 [(5,.o (.a (.v (.slice none 0 0)))),(6,.o (.a (.v (.slice none 0 0)))),(24,.o (.a (.slc 2 0 0 0)))]
theorem i4 (A:List Lf) (ty:TypeId) (B:List Lf) (ty2:TypeId):oI (M8) (m8 A ty B ty2):=by delta oI;kernel_rfl
def m5 (A:List Lf) (ty:TypeId) (B:List Lf) (ty2:TypeId):List Blk:=[⟨false,ty,.prv (lvals A)⟩,⟨false,ty2,.prv (lvals B)⟩]
def M5:List (Option SV):=aD 103 0 [(5,.o (.a (.v (.slice none 0 0)))),(6,.o (.a (.v (.slice none 0 0)))),(7,.o (.a (.v (.slice none 0 0)))),(8,.o (.a (int1 .i64 0)))]
theorem i5 (A:List Lf) (ty:TypeId) (B:List Lf) (ty2:TypeId):oI (M5) (m5 A ty B ty2):=by delta oI;kernel_rfl
theorem bc (A:List Lf) (ty:TypeId) (B:List Lf) (ty2:TypeId) (g:Nat→SV):oU [0,1,2] ΓaZ R4 0 2 (fill g 0 (M1)) (m1 A ty B ty2) [] (M8) (m8 A ty B ty2) []:=by delta oU;kernel_rfl
theorem cc (H:Nd→Nd→B32) (hH:H=hV) (A:List Lf) (ty:TypeId) (B:List Lf) (ty2:TypeId) (g:Nat→SV):oU [0,1] (ΓbZZ H hH) R4 2 8 (fill g 0 (M8)) (m8 A ty B ty2) [] (M5) (m5 A ty B ty2) [0+0+0*64≤0,0≤0,0+0+0*64≤0,0≤0,(([]:List Value).drop (0+0)).take (0*64)=lvals (ak ((([]:List Value).drop (0+0)).take (0*64))),(ak ((([]:List Value).drop (0+0)).take (0*64))).length=0,(([]:List Value).drop (0+0)).take (0*64)=lvals (ak ((([]:List Value).drop (0+0)).take (0*64))),(ak ((([]:List Value).drop (0+0)).take (0*64))).length=0,0+0≤4000000,AllL (ak ((([]:List Value).drop (0+0)).take (0*64))),AllL (ak ((([]:List Value).drop (0+0)).take (0*64))),aL (tndV (ak ((([]:List Value).drop (0+0)).take (0*64))++ak ((([]:List Value).drop (0+0)).take (0*64))))=true,(stT H (ak ((([]:List Value).drop (0+0)).take (0*64))) (ak ((([]:List Value).drop (0+0)).take (0*64))))=[]]:=by delta oU;kernel_rfl
def m8x (A:List Lf) (ty:TypeId) (B:List Lf) (ty2:TypeId) (X:List Lf) (us:List Value):List Blk:=[⟨false,ty,.prv (lvals A)⟩,⟨false,ty2,.prv (lvals B)⟩,⟨true,30,.grv 64 (lvals X) X.length none⟩,⟨true,30,.grv 64 us X.length none⟩]
def M8x (X:List Lf):List (Option SV):=aD 103 0 [(5,.o (.a (.slg 2 X.length))),(6,.o (.a (.v (.slice none 0 0)))),(24,.o (.a (.slg 3 X.length)))]
theorem i4x (A:List Lf) (ty:TypeId) (B:List Lf) (ty2:TypeId) (X:List Lf) (us:List Value):oI (M8x X) (m8x A ty B ty2 X us):=by delta oI;kernel_rfl
def m5x (A:List Lf) (ty:TypeId) (B:List Lf) (ty2:TypeId) (X:List Lf) (T:List Nd):List Blk:=[⟨false,ty,.prv (lvals A)⟩,⟨false,ty2,.prv (lvals B)⟩,⟨true,30,.grv 64 (lvals X) X.length none⟩,⟨true,33,.grv 65 (ah T) T.length none⟩]
def M5x (X:List Lf) (T:List Nd):List (Option SV):=aD 103 0 [(5,.o (.a (.slg 2 X.length))),(6,.o (.a (.v (.slice none 0 0)))),(7,.o (.a (.slg 3 T.length))),(8,.o (.a (int1 .i64 0)))]
theorem i5x (A:List Lf) (ty:TypeId) (B:List Lf) (ty2:TypeId) (X:List Lf) (T:List Nd):oI (M5x X T) (m5x A ty B ty2 X T):=by delta oI;kernel_rfl
theorem bcx (A:List Lf) (ty:TypeId) (B:List Lf) (ty2:TypeId) (X:List Lf) (g:Nat→SV):oU [0,1,2,3] ΓaP R4 0 2 (fill g 0 (M1x X)) (m1x A ty B ty2 X) [] (M8x X) (m8x A ty B ty2 X (((lvals X).drop (0+0)).take (X.length*64))) [0+0+X.length*64≤(lvals X).length,X.length≤X.length,64=64,0<X.length,Room Tryd.prog 30 X.length]:=by delta oU;kernel_rfl
theorem ccx (H:Nd→Nd→B32) (hH:H=hV) (A:List Lf) (ty:TypeId) (B:List Lf) (ty2:TypeId) (X:List Lf) (us:List Value) (g:Nat→SV):oU [0,1,2,5] (ΓbZP H hH) R4 2 8 (fill g 0 (M8x X)) (m8x A ty B ty2 X us) [] (M5x X (stT H (ak ((us.drop (0+0)).take (X.length*64))) (ak ((([]:List Value).drop (0+0)).take (0*64))))) (m5x A ty B ty2 X (stT H (ak ((us.drop (0+0)).take (X.length*64))) (ak ((([]:List Value).drop (0+0)).take (0*64))))) [0+0+X.length*64≤us.length,X.length≤X.length,0+0+0*64≤0,0≤0,(us.drop (0+0)).take (X.length*64)=lvals (ak ((us.drop (0+0)).take (X.length*64))),(ak ((us.drop (0+0)).take (X.length*64))).length=X.length,(([]:List Value).drop (0+0)).take (0*64)=lvals (ak ((([]:List Value).drop (0+0)).take (0*64))),(ak ((([]:List Value).drop (0+0)).take (0*64))).length=0,X.length+0≤4000000,AllL (ak ((us.drop (0+0)).take (X.length*64))),AllL (ak ((([]:List Value).drop (0+0)).take (0*64))),aL (tndV (ak ((us.drop (0+0)).take (X.length*64))++ak ((([]:List Value).drop (0+0)).take (0*64))))=true,(stT H (ak ((us.drop (0+0)).take (X.length*64))) (ak ((([]:List Value).drop (0+0)).take (0*64))))≠[]]:=by delta oU;kernel_rfl
def m8y (A:List Lf) (ty:TypeId) (B:List Lf) (ty2:TypeId) (Y:List Lf):List Blk:=[⟨false,ty,.prv (lvals A)⟩,⟨false,ty2,.prv (lvals B)⟩,⟨true,30,.grv 64 (lvals Y) Y.length none⟩,⟨true,30,.lit []⟩]
def M8y (Y:List Lf):List (Option SV):=aD 103 0 [(5,.o (.a (.v (.slice none 0 0)))),(6,.o (.a (.slg 2 Y.length))),(24,.o (.a (.slc 3 0 0 0)))]
theorem i4y (A:List Lf) (ty:TypeId) (B:List Lf) (ty2:TypeId) (Y:List Lf):oI (M8y Y) (m8y A ty B ty2 Y):=by delta oI;kernel_rfl
def m5y (A:List Lf) (ty:TypeId) (B:List Lf) (ty2:TypeId) (Y:List Lf):List Blk:=[⟨false,ty,.prv (lvals A)⟩,⟨false,ty2,.prv (lvals B)⟩,⟨true,30,.grv 64 (lvals Y) Y.length none⟩]
def M5y (Y:List Lf):List (Option SV):=aD 103 0 [(5,.o (.a (.v (.slice none 0 0)))),(6,.o (.a (.slg 2 Y.length))),(7,.o (.a (.v (.slice none 0 0)))),(8,.o (.a (int1 .i64 0)))]
theorem i5y (A:List Lf) (ty:TypeId) (B:List Lf) (ty2:TypeId) (Y:List Lf):oI (M5y Y) (m5y A ty B ty2 Y):=by delta oI;kernel_rfl
theorem bcy (A:List Lf) (ty:TypeId) (B:List Lf) (ty2:TypeId) (Y:List Lf) (g:Nat→SV):oU [0,1,2,3] ΓaZ R4 0 2 (fill g 0 (M1y Y)) (m1y A ty B ty2 Y) [] (M8y Y) (m8y A ty B ty2 Y) []:=by delta oU;kernel_rfl
theorem ccy (H:Nd→Nd→B32) (hH:H=hV) (A:List Lf) (ty:TypeId) (B:List Lf) (ty2:TypeId) (Y:List Lf) (g:Nat→SV):oU [0,1,2] (ΓbPZ H hH) R4 2 8 (fill g 0 (M8y Y)) (m8y A ty B ty2 Y) [] (M5y Y) (m5y A ty B ty2 Y) [0+0+Y.length*64≤(lvals Y).length,Y.length≤Y.length,64=64,0<Y.length,Room Tryd.prog 30 Y.length,0+0+0*64≤0,0≤0,0+0+Y.length*64≤(((lvals Y).drop (0+0)).take (Y.length*64)).length,Y.length≤Y.length,(([]:List Value).drop (0+0)).take (0*64)=lvals (ak ((([]:List Value).drop (0+0)).take (0*64))),(ak ((([]:List Value).drop (0+0)).take (0*64))).length=0,((((lvals Y).drop (0+0)).take (Y.length*64)).drop (0+0)).take (Y.length*64)=lvals (ak (((((lvals Y).drop (0+0)).take (Y.length*64)).drop (0+0)).take (Y.length*64))),(ak (((((lvals Y).drop (0+0)).take (Y.length*64)).drop (0+0)).take (Y.length*64))).length=Y.length,0+Y.length≤4000000,AllL (ak ((([]:List Value).drop (0+0)).take (0*64))),AllL (ak (((((lvals Y).drop (0+0)).take (Y.length*64)).drop (0+0)).take (Y.length*64))),aL (tndV (ak ((([]:List Value).drop (0+0)).take (0*64))++ak (((((lvals Y).drop (0+0)).take (Y.length*64)).drop (0+0)).take (Y.length*64))))=true,(stT H (ak ((([]:List Value).drop (0+0)).take (0*64))) (ak (((((lvals Y).drop (0+0)).take (Y.length*64)).drop (0+0)).take (Y.length*64))))=[]]:=by delta oU;kernel_rfl
def m8xy (A:List Lf) (ty:TypeId) (B:List Lf) (ty2:TypeId) (X Y:List Lf) (us:List Value):List Blk:=[⟨false,ty,.prv (lvals A)⟩,⟨false,ty2,.prv (lvals B)⟩,⟨true,30,.grv 64 (lvals X) X.length none⟩,⟨true,30,.grv 64 (lvals Y) Y.length none⟩,⟨true,30,.grv 64 us X.length none⟩]
def M8xy (X Y:List Lf):List (Option SV):=aD 103 0 [(5,.o (.a (.slg 2 X.length))),(6,.o (.a (.slg 3 Y.length))),(24,.o (.a (.slg 4 X.length)))]
theorem i4xy (A:List Lf) (ty:TypeId) (B:List Lf) (ty2:TypeId) (X Y:List Lf) (us:List Value):oI (M8xy X Y) (m8xy A ty B ty2 X Y us):=by delta oI;kernel_rfl
def m5xy (A:List Lf) (ty:TypeId) (B:List Lf) (ty2:TypeId) (X Y:List Lf) (T:List Nd):List Blk:=[⟨false,ty,.prv (lvals A)⟩,⟨false,ty2,.prv (lvals B)⟩,⟨true,30,.grv 64 (lvals X) X.length none⟩,⟨true,30,.grv 64 (lvals Y) Y.length none⟩,⟨true,33,.grv 65 (ah T) T.length none⟩]
def M5xy (X Y:List Lf) (T:List Nd):List (Option SV):=aD 103 0 [(5,.o (.a (.slg 2 X.length))),(6,.o (.a (.slg 3 Y.length))),(7,.o (.a (.slg 4 T.length))),(8,.o (.a (int1 .i64 0)))]
theorem i5xy (A:List Lf) (ty:TypeId) (B:List Lf) (ty2:TypeId) (X Y:List Lf) (T:List Nd):oI (M5xy X Y T) (m5xy A ty B ty2 X Y T):=by delta oI;kernel_rfl
theorem bcxy (A:List Lf) (ty:TypeId) (B:List Lf) (ty2:TypeId) (X Y:List Lf) (g:Nat→SV):oU [0,1,2,3,4] ΓaP R4 0 2 (fill g 0 (M1xy X Y)) (m1xy A ty B ty2 X Y) [] (M8xy X Y) (m8xy A ty B ty2 X Y (((lvals X).drop (0+0)).take (X.length*64))) [0+0+X.length*64≤(lvals X).length,X.length≤X.length,64=64,0<X.length,Room Tryd.prog 30 X.length]:=by delta oU;kernel_rfl
theorem ccxy (H:Nd→Nd→B32) (hH:H=hV) (A:List Lf) (ty:TypeId) (B:List Lf) (ty2:TypeId) (X Y:List Lf) (us:List Value) (g:Nat→SV):oU [0,1,2,3,6] (ΓbPP H hH) R4 2 8 (fill g 0 (M8xy X Y)) (m8xy A ty B ty2 X Y us) [] (M5xy X Y (stT H (ak ((us.drop (0+0)).take (X.length*64))) (ak (((((lvals Y).drop (0+0)).take (Y.length*64)).drop (0+0)).take (Y.length*64))))) (m5xy A ty B ty2 X Y (stT H (ak ((us.drop (0+0)).take (X.length*64))) (ak (((((lvals Y).drop (0+0)).take (Y.length*64)).drop (0+0)).take (Y.length*64))))) [0+0+Y.length*64≤(lvals Y).length,Y.length≤Y.length,64=64,0<Y.length,Room Tryd.prog 30 Y.length,0+0+X.length*64≤us.length,X.length≤X.length,0+0+Y.length*64≤(((lvals Y).drop (0+0)).take (Y.length*64)).length,Y.length≤Y.length,(us.drop (0+0)).take (X.length*64)=lvals (ak ((us.drop (0+0)).take (X.length*64))),(ak ((us.drop (0+0)).take (X.length*64))).length=X.length,((((lvals Y).drop (0+0)).take (Y.length*64)).drop (0+0)).take (Y.length*64)=lvals (ak (((((lvals Y).drop (0+0)).take (Y.length*64)).drop (0+0)).take (Y.length*64))),(ak (((((lvals Y).drop (0+0)).take (Y.length*64)).drop (0+0)).take (Y.length*64))).length=Y.length,X.length+Y.length≤4000000,AllL (ak ((us.drop (0+0)).take (X.length*64))),AllL (ak (((((lvals Y).drop (0+0)).take (Y.length*64)).drop (0+0)).take (Y.length*64))),aL (tndV (ak ((us.drop (0+0)).take (X.length*64))++ak (((((lvals Y).drop (0+0)).take (Y.length*64)).drop (0+0)).take (Y.length*64))))=true,(stT H (ak ((us.drop (0+0)).take (X.length*64))) (ak (((((lvals Y).drop (0+0)).take (Y.length*64)).drop (0+0)).take (Y.length*64))))≠[]]:=by delta oU;kernel_rfl
def MS (X Y:List Lf) (T:List Nd):List (Option SV):=match X,Y with
 | [],[]=>M5
 | x::X,[]=>M5x (x::X) T
 | [],y::Y=>M5y (y::Y)
 | x::X,y::Y=>M5xy (x::X) (y::Y) T
def mS (A:List Lf) (ty:TypeId) (B:List Lf) (ty2:TypeId) (X Y:List Lf) (T:List Nd):List Blk:=match X,Y with
 | [],[]=>m5 A ty B ty2
 | x::X,[]=>m5x A ty B ty2 (x::X) T
 | [],y::Y=>m5y A ty B ty2 (y::Y)
 | x::X,y::Y=>m5xy A ty B ty2 (x::X) (y::Y) T
theorem stays (H:Nd→Nd→B32) (hH:H=hV) (A:List Lf) (n c:Nat) (ty:TypeId) (B:List Lf) (m d:Nat) (ty2:TypeId) (X:List Lf) (hX:AllL X) (Y:List Lf) (hY:AllL Y) (hne:((X++Y).map leafV).Pairwise NeP) (hb:X.length+Y.length≤4000000) (g:Nat→SV) {Post:Ex→List SV→List Blk→Prop} (h:∀g,Post .normal (fill g 0 (MS X Y (stT H X Y))) (mS A ty B ty2 X Y (stT H X Y))):aB Tryd.prog GT 2 R4 (fill g 0 (MP X Y)) (mP A ty B ty2 X Y) Post:=by
 have hap:=tnd_apart (hX.app hY) (ne_dup hne _ (Nat.le_refl _))
 have hE0:ak ((([]:List Value).drop (0+0)).take (0*64))=[]:=lope.lfDec0
 rw[reg4]
 refine Runs.region ?_
 have hT:X≠[]→stT H X Y≠[]:=fun h0=>by rw[hH];exact acp.stay_ne hX hY hne h0
 cases X with
 | nil=>
  cases Y with
  | nil=>
   have q:=bc A ty B ty2 g
   refine aO.aK aj 2 [0,1,2] q trivial (i4 A ty B ty2) rfl fun g=> ?_
   have q:=cc H hH A ty B ty2 g
   rw[hE0] at q
   refine aO.aK aj 8 [0,1] q ⟨by omega,Nat.le_refl _,by omega,Nat.le_refl _,rfl,rfl,rfl,rfl,by simp,hX,hY,hap,(by unfold stT;rw[tnd_nil];rfl),trivial⟩ (i5 A ty B ty2) rfl fun g=> ?_
   rw[nil4]
   exact aO.nil (h g)
  | cons y Y=>
   have dY:((lvals (y::Y)).drop (0+0)).take ((y::Y).length*64)=lvals (y::Y):=dtl rfl
   have ly:(lvals (y::Y)).length=(y::Y).length*64:=bE _
   have py:0<(y::Y).length:=Nat.succ_pos _
   have q:=bcy A ty B ty2 (y::Y) g
   refine aO.aK aj 2 [0,1,2,3] q trivial (i4y A ty B ty2 _) rfl fun g=> ?_
   have q:=ccy H hH A ty B ty2 (y::Y) g
   rw[dY,dY,aY,hE0] at q
   refine aO.aK aj 8 [0,1,2] q ⟨by omega,Nat.le_refl _,rfl,py,roomLf _ (by omega),by omega,Nat.le_refl _,by omega,Nat.le_refl _,rfl,rfl,rfl,rfl,by simpa using hb,hX,hY,hap,(by unfold stT;rw[tnd_nil];rfl),trivial⟩ (i5y A ty B ty2 _) rfl fun g=> ?_
   rw[nil4]
   exact aO.nil (h g)
 | cons x X=>
  cases Y with
  | nil=>
   have dX:((lvals (x::X)).drop (0+0)).take ((x::X).length*64)=lvals (x::X):=dtl rfl
   have lx:(lvals (x::X)).length=(x::X).length*64:=bE _
   have px:0<(x::X).length:=Nat.succ_pos _
   have q:=bcx A ty B ty2 (x::X) g
   rw[dX] at q
   refine aO.aK aj 2 [0,1,2,3] q ⟨by omega,Nat.le_refl _,rfl,px,roomLf _ (by omega),trivial⟩ (i4x A ty B ty2 _ _) rfl fun g=> ?_
   have q:=ccx H hH A ty B ty2 (x::X) (lvals (x::X)) g
   rw[dX,aY,hE0] at q
   refine aO.aK aj 8 [0,1,2,5] q ⟨by omega,Nat.le_refl _,by omega,Nat.le_refl _,rfl,rfl,rfl,rfl,by simpa using hb,hX,hY,hap,hT (List.cons_ne_nil _ _),trivial⟩ (i5x A ty B ty2 _ _) rfl fun g=> ?_
   rw[nil4]
   exact aO.nil (h g)
  | cons y Y=>
   have dX:((lvals (x::X)).drop (0+0)).take ((x::X).length*64)=lvals (x::X):=dtl rfl
   have lx:(lvals (x::X)).length=(x::X).length*64:=bE _
   have px:0<(x::X).length:=Nat.succ_pos _
   have dY:((lvals (y::Y)).drop (0+0)).take ((y::Y).length*64)=lvals (y::Y):=dtl rfl
   have ly:(lvals (y::Y)).length=(y::Y).length*64:=bE _
   have py:0<(y::Y).length:=Nat.succ_pos _
   have q:=bcxy A ty B ty2 (x::X) (y::Y) g
   rw[dX] at q
   refine aO.aK aj 2 [0,1,2,3,4] q ⟨by omega,Nat.le_refl _,rfl,px,roomLf _ (by omega),trivial⟩ (i4xy A ty B ty2 _ _ _) rfl fun g=> ?_
   have q:=ccxy H hH A ty B ty2 (x::X) (y::Y) (lvals (x::X)) g
   rw[dX,aY,dY,dY,aY] at q
   refine aO.aK aj 8 [0,1,2,3,6] q ⟨by omega,Nat.le_refl _,rfl,py,roomLf _ (by omega),by omega,Nat.le_refl _,by omega,Nat.le_refl _,rfl,rfl,rfl,rfl,by simpa using hb,hX,hY,hap,hT (List.cons_ne_nil _ _),trivial⟩ (i5xy A ty B ty2 _ _ _) rfl fun g=> ?_
   rw[nil4]
   exact aO.nil (h g)
end ww
end lglt
end Go.Proofs.YtdccehmekkcheaaDoor
