/- GrowAccepts: the region that joins both lists: facts. -/
import Derived.Test.YtdccehmekkcheaaDoorAFo
import Derived.Test.YtdccehmekkcheaaDoorAGas
import Derived.Test.YtdccehmekkcheaaDoorARlL
import Derived.Test.YtdccehmekkcheaaDoorAMTI
namespace Go.Proofs.YtdccehmekkcheaaDoor
open Go Go.Eng Go.RowKit
set_option linter.unusedVariables false
set_option linter.unusedSimpArgs false
set_option maxRecDepth 100000
namespace lgac
noncomputable def R5:Code:=cs1 (csuf 4 body)
noncomputable def i5:Nat:=match R5 with | .region i _ _=>i | _=>0
theorem reg5:R5= .region i5 (opsOf R5) false:=by kernel_rfl
namespace ww
def m6 (A:List Lf) (ty:TypeId) (B:List Lf) (ty2:TypeId):List Blk:=[⟨false,ty,.prv (lvals A)⟩,⟨false,ty2,.prv (lvals B)⟩,⟨true,30,.lit []⟩]
def M6:List (Option SV):=ay 43 0 [(5,.o (.a (.v (.slice none 0 0)))),(6,.o (.a (.v (.slice none 0 0)))),(7,.o (.a (.v (.slice none 0 0)))),(8,.o (.a (int1 .i64 0))),(9,.o (.a (.slc 2 0 0 0)))]
section
variable (A:List Lf) (ty:TypeId) (B:List Lf) (ty2:TypeId)
theorem i6:oI (M6) (m6 A ty B ty2):=by delta oI;kernel_rfl
theorem jd (g:Nat→SV):oU [0,1,2] ΓaZ R5 0 5 (fill g 0 (M5 )) (m5 A ty B ty2) [(29,[.dyn])] (M6) (m6 A ty B ty2) [0=0]:=by delta oU;kernel_rfl
def m6x (X:List Lf) (T:List Nd) (us:List Value) (lo:Nat) (hi:Option Nat):List Blk:=[⟨false,ty,.prv (lvals A)⟩,⟨false,ty2,.prv (lvals B)⟩,⟨true,30,.grv 64 (lvals X) X.length none⟩,⟨true,33,.grv 65 (ah T) T.length none⟩,⟨true,30,.grv 64 us lo hi⟩]
end
def M6x (X:List Lf) (T:List Nd):List (Option SV):=ay 43 0 [(5,.o (.a (.slg 2 X.length))),(6,.o (.a (.v (.slice none 0 0)))),(7,.o (.a (.slg 3 T.length))),(8,.o (.a (int1 .i64 0))),(9,.o (.a (.slg 4 (X.length+0))))]
theorem i6x (A:List Lf) (ty:TypeId) (B:List Lf) (ty2:TypeId) (X:List Lf) (T:List Nd) (us:List Value) (lo:Nat) (hi:Option Nat):oI (M6x X T) (m6x A ty B ty2 X T (us) (lo) (hi)):=by delta oI;kernel_rfl
def M9x (X:List Lf) (T:List Nd):List (Option SV):=ay 43 0 [(5,.o (.a (.slg 2 X.length))),(6,.o (.a (.v (.slice none 0 0)))),(7,.o (.a (.slg 3 T.length))),(8,.o (.a (int1 .i64 0))),(27,.o (.a (.slg 4 X.length))),(28,.o (.a (.v (.slice none 0 0))))]
section
variable (A:List Lf) (ty:TypeId) (B:List Lf) (ty2:TypeId)
theorem i9x (X:List Lf) (T:List Nd) (us:List Value) (lo:Nat) (hi:Option Nat):oI (M9x X T) (m6x A ty B ty2 X T (us) (lo) (hi)):=by delta oI;kernel_rfl
theorem jdx (X:List Lf) (T:List Nd) (g:Nat→SV):oU [0,1,2,3,4] ΓaP R5 0 3 (fill g 0 (M5x X T )) (m5x A ty B ty2 X T) [] (M9x X T) (m6x A ty B ty2 X T (((lvals X).drop (0+0)).take (X.length*64)) (X.length) (none)) [0+0+X.length*64≤(lvals X).length,X.length≤X.length,64=64,0<X.length,Room Tryd.prog 30 X.length]:=by delta oU;kernel_rfl
theorem gx (X:List Lf) (T:List Nd) (us:List Value) (g:Nat→SV):oU [0,1,2,3,4] ΓE R5 3 2 (fill g 0 (M9x X T )) (m6x A ty B ty2 X T (us) (X.length) (none)) [(29,[.dyn])] (M6x X T) (m6x A ty B ty2 X T (us++[]) (X.length) (none)) [X.length*64=us.length,X.length+0≤X.length,∀v∈([]:List Value),v.oneCell'=true]:=by delta oU;kernel_rfl
def m6y (Y:List Lf) (us:List Value) (lo:Nat) (hi:Option Nat):List Blk:=[⟨false,ty,.prv (lvals A)⟩,⟨false,ty2,.prv (lvals B)⟩,⟨true,30,.grv 64 (lvals Y) Y.length none⟩,⟨true,30,.grv 64 us lo hi⟩]
end
def M6y (Y:List Lf):List (Option SV):=ay 43 0 [(5,.o (.a (.v (.slice none 0 0)))),(6,.o (.a (.slg 2 Y.length))),(7,.o (.a (.v (.slice none 0 0)))),(8,.o (.a (int1 .i64 0))),(9,.o (.a (.slg 3 Y.length)))]
section
variable (A:List Lf) (ty:TypeId) (B:List Lf) (ty2:TypeId)
theorem i6y (Y:List Lf) (us:List Value) (lo:Nat) (hi:Option Nat):oI (M6y Y) (m6y A ty B ty2 Y (us) (lo) (hi)):=by delta oI;kernel_rfl
theorem jdy (Y:List Lf) (g:Nat→SV):oU [0,1,2,4] ΓaZ R5 0 5 (fill g 0 (M5y Y )) (m5y A ty B ty2 Y) [] (M6y Y) (m6y A ty B ty2 Y (((lvals Y).drop (0+0)).take (Y.length*64)) (Y.length) (none)) [0+Y.length*64≤(lvals Y).length,0<Y.length,Room Tryd.prog 30 Y.length]:=by delta oU;kernel_rfl
def m6xy (X Y:List Lf) (T:List Nd) (us:List Value) (lo:Nat) (hi:Option Nat):List Blk:=[⟨false,ty,.prv (lvals A)⟩,⟨false,ty2,.prv (lvals B)⟩,⟨true,30,.grv 64 (lvals X) X.length none⟩,⟨true,30,.grv 64 (lvals Y) Y.length none⟩,⟨true,33,.grv 65 (ah T) T.length none⟩,⟨true,30,.grv 64 us lo hi⟩]
end
def M6xy (X Y:List Lf) (T:List Nd):List (Option SV):=ay 43 0 [(5,.o (.a (.slg 2 X.length))),(6,.o (.a (.slg 3 Y.length))),(7,.o (.a (.slg 4 T.length))),(8,.o (.a (int1 .i64 0))),(9,.o (.a (.slg 5 (X.length+Y.length))))]
theorem i6xy (A:List Lf) (ty:TypeId) (B:List Lf) (ty2:TypeId) (X Y:List Lf) (T:List Nd) (us:List Value) (lo:Nat) (hi:Option Nat):oI (M6xy X Y T) (m6xy A ty B ty2 X Y T (us) (lo) (hi)):=by delta oI;kernel_rfl
def M9xy (X Y:List Lf) (T:List Nd):List (Option SV):=ay 43 0 [(5,.o (.a (.slg 2 X.length))),(6,.o (.a (.slg 3 Y.length))),(7,.o (.a (.slg 4 T.length))),(8,.o (.a (int1 .i64 0))),(27,.o (.a (.slg 5 X.length))),(28,.o (.a (.slg 3 Y.length)))]
section
variable (A:List Lf) (ty:TypeId) (B:List Lf) (ty2:TypeId) (X Y:List Lf) (T:List Nd)
theorem i9xy (us:List Value) (lo:Nat) (hi:Option Nat):oI (M9xy X Y T) (m6xy A ty B ty2 X Y T (us) (lo) (hi)):=by delta oI;kernel_rfl
theorem jdxy (g:Nat→SV):oU [0,1,2,3,4,5] ΓaP R5 0 3 (fill g 0 (M5xy X Y T )) (m5xy A ty B ty2 X Y T) [] (M9xy X Y T) (m6xy A ty B ty2 X Y T (((lvals X).drop (0+0)).take (X.length*64)) (X.length) (none)) [0+0+X.length*64≤(lvals X).length,X.length≤X.length,64=64,0<X.length,Room Tryd.prog 30 X.length]:=by delta oU;kernel_rfl
theorem gxy (us:List Value) (g:Nat→SV):oU [0,1,2,3,4,5] ΓE R5 3 2 (fill g 0 (M9xy X Y T )) (m6xy A ty B ty2 X Y T (us) (X.length+Y.length) (none)) [(29,[.dyn])] (M6xy X Y T) (m6xy A ty B ty2 X Y T (us++((lvals Y).drop (0+0)).take (Y.length*64)) (X.length+Y.length) (none)) [0+Y.length*64≤(lvals Y).length,X.length*64=us.length,X.length+Y.length≤X.length+Y.length,∀v∈((lvals Y).drop (0+0)).take (Y.length*64),v.oneCell'=true]:=by delta oU;kernel_rfl
theorem rxy (us:List Value) (lo:Nat) (g:Nat→SV):oU [0,1,2,3,4,6] ΓE R5 3 2 (fill g 0 (M9xy X Y T )) (m6xy A ty B ty2 X Y T (us) (lo) (some (X.length+Y.length))) [(29,[.dyn])] (M6xy X Y T) (m6xy A ty B ty2 X Y T (us++((lvals Y).drop (0+0)).take (Y.length*64)) (X.length+Y.length) (none)) [0+Y.length*64≤(lvals Y).length,X.length*64=us.length,X.length+Y.length≤X.length+Y.length,Room Tryd.prog 30 (X.length+Y.length)]:=by delta oU;kernel_rfl
end
end ww
end lgac
end Go.Proofs.YtdccehmekkcheaaDoor
namespace Go.Proofs.YtdccehmekkcheaaDoor
open Go Go.Eng Go.RowKit
set_option linter.unusedVariables false
set_option linter.unusedSimpArgs false
set_option maxRecDepth 100000
namespace lgac
theorem one_lv (l:List Lf):∀v∈lvals l,v.oneCell'=true:=fun v hv=>by
 unfold lvals at hv
 obtain⟨w,hw,hv⟩:=List.mem_flatten.1 hv
 obtain⟨z,_,rfl⟩:=List.mem_map.1 hw
 exact dst.oneLv z v hv
theorem nil5:((opsOf R5).toList.drop 3).drop 2=[]:=by kernel_rfl
theorem nil5':(opsOf R5).toList.drop 5=[]:=by kernel_rfl
namespace ww
def MJ (X Y:List Lf) (T:List Nd):List (Option SV):=match X,Y with
 | [],[]=>M6
 | x::X,[]=>M6x (x::X) T
 | [],y::Y=>M6y (y::Y)
 | x::X,y::Y=>M6xy (x::X) (y::Y) T
def mJ (A:List Lf) (ty:TypeId) (B:List Lf) (ty2:TypeId) (X Y:List Lf) (T:List Nd):List Blk:=match X,Y with
 | [],[]=>m6 A ty B ty2
 | x::X,[]=>m6x A ty B ty2 (x::X) T (lvals (x::X)++[]) (x::X).length none
 | [],y::Y=>m6y A ty B ty2 (y::Y) (lvals (y::Y)) (y::Y).length none
 | x::X,y::Y=>m6xy A ty B ty2 (x::X) (y::Y) T (lvals (x::X)++lvals (y::Y)) ((x::X).length+(y::Y).length) none
theorem joined (H:Nd→Nd→B32) (hH:H=hV) (A:List Lf) (n c:Nat) (ty:TypeId) (B:List Lf) (m d:Nat) (ty2:TypeId) (X:List Lf) (Y:List Lf) (T:List Nd) (hb:X.length+Y.length≤4000000) (g:Nat→SV) {Post:Ex→List SV→List Blk→Prop} (h:∀g,Post .normal (fill g 0 (MJ X Y T)) (mJ A ty B ty2 X Y T)):aB Tryd.prog GT 2 R5 (fill g 0 (MS X Y T)) (mS A ty B ty2 X Y T) Post:=by
 rw[reg5]
 refine Runs.region ?_
 cases X with
 | nil=>
  cases Y with
  | nil=>
   refine aL.aH aj 5 [0,1,2] (jd A ty B ty2 g) ⟨rfl,trivial⟩ (i6 A ty B ty2 ) rfl fun g=> ?_
   rw[nil5']
   exact aL.nil (h g)
  | cons y Y=>
   have dY:((lvals (y::Y)).drop (0+0)).take ((y::Y).length*64)=lvals (y::Y):=dtl rfl
   have ly:(lvals (y::Y)).length=(y::Y).length*64:=aZ _
   have py:0<(y::Y).length:=Nat.succ_pos _
   have q:=jdy A ty B ty2 (y::Y) g
   rw[dY] at q
   refine aL.aH aj 5 [0,1,2,4] q ⟨by omega,py,roomLf _ (by simp at hb ⊢;omega),trivial⟩ (i6y A ty B ty2 (y::Y) _ _ _) rfl fun g=> ?_
   rw[nil5']
   exact aL.nil (h g)
 | cons x X=>
  cases Y with
  | nil=>
   have dX:((lvals (x::X)).drop (0+0)).take ((x::X).length*64)=lvals (x::X):=dtl rfl
   have lx:(lvals (x::X)).length=(x::X).length*64:=aZ _
   have px:0<(x::X).length:=Nat.succ_pos _
   have q:=jdx A ty B ty2 (x::X) T g
   rw[dX] at q
   refine aL.aH aj 3 [0,1,2,3,4] q ⟨by omega,Nat.le_refl _,rfl,px,roomLf _ (by simp at hb ⊢;omega),trivial⟩ (i9x A ty B ty2 (x::X) T _ _ _) rfl fun g=> ?_
   refine aL.aH aj 2 [0,1,2,3,4] (gx A ty B ty2 (x::X) T (lvals (x::X)) g) ⟨by omega,Nat.le_refl _,(fun v hv=>by cases hv),trivial⟩ (i6x A ty B ty2 (x::X) T _ _ _) rfl fun g=> ?_
   rw[nil5]
   exact aL.nil (h g)
  | cons y Y=>
   have dX:((lvals (x::X)).drop (0+0)).take ((x::X).length*64)=lvals (x::X):=dtl rfl
   have lx:(lvals (x::X)).length=(x::X).length*64:=aZ _
   have px:0<(x::X).length:=Nat.succ_pos _
   have dY:((lvals (y::Y)).drop (0+0)).take ((y::Y).length*64)=lvals (y::Y):=dtl rfl
   have ly:(lvals (y::Y)).length=(y::Y).length*64:=aZ _
   have py:0<(y::Y).length:=Nat.succ_pos _
   have hb:(x::X).length+(y::Y).length≤4000000:=hb
   have q:=jdxy A ty B ty2 (x::X) (y::Y) T g
   rw[dX] at q
   refine aL.aH aj 3 [0,1,2,3,4,5] q ⟨by omega,Nat.le_refl _,rfl,px,roomLf _ (by simp at hb ⊢;omega),trivial⟩ (i9xy A ty B ty2 (x::X) (y::Y) T _ _ _) rfl fun g=> ?_
   refine aL.roomV 5 ((x::X).length+(y::Y).length) (own:=true) (ty:=30) (s:=64) (vs:=lvals (x::X)) (lo:=(x::X).length) rfl ?_ ?_
   ·have q:=gxy A ty B ty2 (x::X) (y::Y) T (lvals (x::X)) g
    rw[dY] at q
    refine aL.aH aj 2 [0,1,2,3,4,5] q ⟨by omega,by omega,Nat.le_refl _,one_lv _,trivial⟩ (i6xy A ty B ty2 (x::X) (y::Y) T _ _ _) rfl fun g=> ?_
    rw[nil5]
    exact aL.nil (h g)
   ·have q:=rxy A ty B ty2 (x::X) (y::Y) T (lvals (x::X)) (x::X).length g
    rw[dY] at q
    refine aL.aH aj 2 [0,1,2,3,4,6] q ⟨by omega,by omega,Nat.le_refl _,roomLf _ hb,trivial⟩ (i6xy A ty B ty2 (x::X) (y::Y) T _ _ _) rfl fun g=> ?_
    rw[nil5]
    exact aL.nil (h g)
end ww
end lgac
end Go.Proofs.YtdccehmekkcheaaDoor
namespace Go.Proofs.YtdccehmekkcheaaDoor
open Go Go.Eng Go.RowKit
set_option linter.unusedVariables false
set_option linter.unusedSimpArgs false
set_option maxRecDepth 100000
namespace lgac
noncomputable def D:Code:=csuf 5 body
def MR:List (Option SV):=ay 43 0 [(4,.o (.a (.v (.bool true))))]
theorem zr (g:Nat→SV) (mm:Nat→Option Blk):eRes tys (fill g 0 MR) mm fn.results.toList=some [.a (bool1 true)]:=by kernel_rfl
section
variable (H:Nd→Nd→B32) (hH:H=hV) (E:B32) (hE':E=hE) (S:Nd→B32) (hS':S=hS)
noncomputable def ΓeP:Cons Tryd.prog GT:=[root12.con H hH E hE' S hS' ,cpl12.conP,gck.con H hH E hE' S hS' ]
noncomputable def ΓeZ:Cons Tryd.prog GT:=[root12.con H hH E hE' S hS' ,cpl12.conZ,gck.con H hH E hE' S hS' ]
end
namespace ww
theorem e (H:Nd→Nd→B32) (hH:H=hV) (E:B32) (hE':E=hE) (S:Nd→B32) (hS':S=hS) (A:List Lf) (n c:Nat) (ty:TypeId) (B:List Lf) (m d:Nat) (ty2:TypeId) (X Y:List Lf) (T:List Nd) (s t:B32) (g:Nat→SV):oN [0,1] (ΓeZ H hH E hE' S hS') 100 D (fill g 0 (M6)) (m6 A ty B ty2) [(34,[.s (cB32.enc s)]),(36,[.s (cB32.enc t)]),(40,[.n 0])] .ret MR (m0 A ty B ty2) [cB32.enc (rofR H E S []).1=cB32.enc s,0+0+0*64≤0,0≤0,(([]:List Value).drop (0+0)).take (0*64)=lvals (ak ((([]:List Value).drop (0+0)).take (0*64))),(ak ((([]:List Value).drop (0+0)).take (0*64))).length=0,0≤4000000,AllL (ak ((([]:List Value).drop (0+0)).take (0*64))),cB32.enc (rofR H E S (ak ((([]:List Value).drop (0+0)).take (0*64)))).1=cB32.enc t,0+0+0*64≤0,0≤0,(([]:List Value).drop (0+0)).take (0*64)=lvals (ak ((([]:List Value).drop (0+0)).take (0*64))),(ak ((([]:List Value).drop (0+0)).take (0*64))).length=0,AllL (ak ((([]:List Value).drop (0+0)).take (0*64))),0≤4000000,chkT H E S s t [] (ak ((([]:List Value).drop (0+0)).take (0*64)))=0]:=by delta oN;kernel_rfl
theorem ex (H:Nd→Nd→B32) (hH:H=hV) (E:B32) (hE':E=hE) (S:Nd→B32) (hS':S=hS) (A:List Lf) (n c:Nat) (ty:TypeId) (B:List Lf) (m d:Nat) (ty2:TypeId) (X Y:List Lf) (T:List Nd) (us:List Value) (lo:Nat) (s t:B32) (g:Nat→SV):oN [0,1] (ΓeZ H hH E hE' S hS') 100 D (fill g 0 (M6x X T)) (m6x A ty B ty2 X T us lo none) [(34,[.s (cB32.enc s)]),(36,[.s (cB32.enc t)]),(40,[.n 0])] .ret MR (m0 A ty B ty2) [0+0+X.length*64≤(lvals X).length,X.length≤X.length,((lvals X).drop (0+0)).take (X.length*64)=lvals (ak (((lvals X).drop (0+0)).take (X.length*64))),(ak (((lvals X).drop (0+0)).take (X.length*64))).length=X.length,X.length≤4000000,AllL (ak (((lvals X).drop (0+0)).take (X.length*64))),cB32.enc (rofR H E S (ak (((lvals X).drop (0+0)).take (X.length*64)))).1=cB32.enc s,0+0+(X.length+0)*64≤us.length,(X.length+0)≤lo,(us.drop (0+0)).take ((X.length+0)*64)=lvals (ak ((us.drop (0+0)).take ((X.length+0)*64))),(ak ((us.drop (0+0)).take ((X.length+0)*64))).length=(X.length+0),(X.length+0)≤4000000,AllL (ak ((us.drop (0+0)).take ((X.length+0)*64))),cB32.enc (rofR H E S (ak ((us.drop (0+0)).take ((X.length+0)*64)))).1=cB32.enc t,0+0+T.length*65≤(ah T).length,T.length≤T.length,0+0+0*64≤0,0≤0,((ah T).drop (0+0)).take (T.length*65)=ah (av (((ah T).drop (0+0)).take (T.length*65))),(av (((ah T).drop (0+0)).take (T.length*65))).length=T.length,aN (av (((ah T).drop (0+0)).take (T.length*65))),(([]:List Value).drop (0+0)).take (0*64)=lvals (ak ((([]:List Value).drop (0+0)).take (0*64))),(ak ((([]:List Value).drop (0+0)).take (0*64))).length=0,AllL (ak ((([]:List Value).drop (0+0)).take (0*64))),T.length+0≤4000000,chkT H E S s t (av (((ah T).drop (0+0)).take (T.length*65))) (ak ((([]:List Value).drop (0+0)).take (0*64)))=0]:=by delta oN;kernel_rfl
theorem ey (H:Nd→Nd→B32) (hH:H=hV) (E:B32) (hE':E=hE) (S:Nd→B32) (hS':S=hS) (A:List Lf) (n c:Nat) (ty:TypeId) (B:List Lf) (m d:Nat) (ty2:TypeId) (X Y:List Lf) (T:List Nd) (us:List Value) (lo:Nat) (s t:B32) (g:Nat→SV):oN [0,1] (ΓeP H hH E hE' S hS') 100 D (fill g 0 (M6y Y)) (m6y A ty B ty2 Y us lo none) [(34,[.s (cB32.enc s)]),(36,[.s (cB32.enc t)]),(40,[.n 0])] .ret MR (m0 A ty B ty2) [cB32.enc (rofR H E S []).1=cB32.enc s,0+0+Y.length*64≤us.length,Y.length≤lo,(us.drop (0+0)).take (Y.length*64)=lvals (ak ((us.drop (0+0)).take (Y.length*64))),(ak ((us.drop (0+0)).take (Y.length*64))).length=Y.length,Y.length≤4000000,AllL (ak ((us.drop (0+0)).take (Y.length*64))),cB32.enc (rofR H E S (ak ((us.drop (0+0)).take (Y.length*64)))).1=cB32.enc t,0+0+Y.length*64≤(lvals Y).length,Y.length≤Y.length,64=64,0<Y.length,Room Tryd.prog 30 Y.length,0+0+Y.length*64≤(((lvals Y).drop (0+0)).take (Y.length*64)).length,Y.length≤Y.length,((((lvals Y).drop (0+0)).take (Y.length*64)).drop (0+0)).take (Y.length*64)=lvals (ak (((((lvals Y).drop (0+0)).take (Y.length*64)).drop (0+0)).take (Y.length*64))),(ak (((((lvals Y).drop (0+0)).take (Y.length*64)).drop (0+0)).take (Y.length*64))).length=Y.length,AllL (ak (((((lvals Y).drop (0+0)).take (Y.length*64)).drop (0+0)).take (Y.length*64))),Y.length≤4000000,chkT H E S s t [] (ak (((((lvals Y).drop (0+0)).take (Y.length*64)).drop (0+0)).take (Y.length*64)))=0]:=by delta oN;kernel_rfl
theorem exy (H:Nd→Nd→B32) (hH:H=hV) (E:B32) (hE':E=hE) (S:Nd→B32) (hS':S=hS) (A:List Lf) (n:Nat) (ty:TypeId) (B:List Lf) (ty2:TypeId) (X Y:List Lf) (T:List Nd) (us:List Value) (lo:Nat) (s t:B32) (g:Nat→SV):oN [0,1] (ΓeP H hH E hE' S hS') 100 D (fill g 0 (M6xy X Y T)) (m6xy A ty B ty2 X Y T us lo none) [(34,[.s (cB32.enc s)]),(36,[.s (cB32.enc t)]),(40,[.n 0])] .ret MR (m0 A ty B ty2) [0+0+X.length*64≤(lvals X).length,X.length≤X.length,((lvals X).drop (0+0)).take (X.length*64)=lvals (ak (((lvals X).drop (0+0)).take (X.length*64))),(ak (((lvals X).drop (0+0)).take (X.length*64))).length=X.length,X.length≤4000000,AllL (ak (((lvals X).drop (0+0)).take (X.length*64))),cB32.enc (rofR H E S (ak (((lvals X).drop (0+0)).take (X.length*64)))).1=cB32.enc s,0+0+(X.length+Y.length)*64≤us.length,(X.length+Y.length)≤lo,(us.drop (0+0)).take ((X.length+Y.length)*64)=lvals (ak ((us.drop (0+0)).take ((X.length+Y.length)*64))),(ak ((us.drop (0+0)).take ((X.length+Y.length)*64))).length=(X.length+Y.length),(X.length+Y.length)≤4000000,AllL (ak ((us.drop (0+0)).take ((X.length+Y.length)*64))),cB32.enc (rofR H E S (ak ((us.drop (0+0)).take ((X.length+Y.length)*64)))).1=cB32.enc t,0+0+Y.length*64≤(lvals Y).length,Y.length≤Y.length,64=64,0<Y.length,Room Tryd.prog 30 Y.length,0+0+T.length*65≤(ah T).length,T.length≤T.length,0+0+Y.length*64≤(((lvals Y).drop (0+0)).take (Y.length*64)).length,Y.length≤Y.length,((ah T).drop (0+0)).take (T.length*65)=ah (av (((ah T).drop (0+0)).take (T.length*65))),(av (((ah T).drop (0+0)).take (T.length*65))).length=T.length,aN (av (((ah T).drop (0+0)).take (T.length*65))),((((lvals Y).drop (0+0)).take (Y.length*64)).drop (0+0)).take (Y.length*64)=lvals (ak (((((lvals Y).drop (0+0)).take (Y.length*64)).drop (0+0)).take (Y.length*64))),(ak (((((lvals Y).drop (0+0)).take (Y.length*64)).drop (0+0)).take (Y.length*64))).length=Y.length,AllL (ak (((((lvals Y).drop (0+0)).take (Y.length*64)).drop (0+0)).take (Y.length*64))),T.length+Y.length≤4000000,chkT H E S s t (av (((ah T).drop (0+0)).take (T.length*65))) (ak (((((lvals Y).drop (0+0)).take (Y.length*64)).drop (0+0)).take (Y.length*64)))=0]:=by delta oN;kernel_rfl
end ww
end lgac
end Go.Proofs.YtdccehmekkcheaaDoor
namespace Go.Proofs.YtdccehmekkcheaaDoor
open Go Go.Eng Go.RowKit
set_option linter.unusedVariables false
set_option linter.unusedSimpArgs false
set_option maxRecDepth 100000
theorem acp.sl {X Y:List Lf} (hX:AllL X) (hne:((X++Y).map bq).Pairwise NeP):(stT hV X Y).length≤X.length:=by
 rcases X with _ | ⟨z,X⟩
 ·have e:stT hV [] Y=[]:=by unfold stT;rw[tnd_nil];rfl
  rw[e]
  exact Nat.le_refl _
 ·have hA:=acp.apT hX (ne_left hne)
  have e:stT hV (z::X) Y=witV hV false (tndV (z::X)) (labs Y):=aroV_wit hV hV_ok false hA _
  rw[e]
  have:=witV_len hV hV_ok false hA (labs Y)
  rw[tnd_len] at this
  exact this
theorem acp.acc {X Y:List Lf} (hX:AllL X) (hY:AllL Y) (hne:((X++Y).map bq).Pairwise NeP) (H:Nd→Nd→B32) (hH:H=hV) (E:B32) (S:Nd→B32):
  chkT H E S (rofR H E S X).1 (rofR H E S (X++Y)).1 (stT H X Y) Y=0:=by
 subst hH
 rw[rof_eq hX,rof_eq (hX.app hY)]
 exact acp.accept hX hY hne E S
theorem acp.aok {X Y:List Lf} (hX:AllL X) (hY:AllL Y) (hne:((X++Y).map bq).Pairwise NeP) (H:Nd→Nd→B32) (hH:H=hV):aN (stT H X Y):=by
 subst hH
 exact(acp.stay hX hY hne).1.ok
namespace lgac
theorem body2:csuf 2 body= .seq R3 (.seq R4 (.seq R5 D)):=by kernel_rfl
namespace ww
theorem last (H:Nd→Nd→B32) (hH:H=hV) (E:B32) (hE':E=hE) (S:Nd→B32) (hS':S=hS) (A:List Lf) (n c:Nat) (ty:TypeId) (B:List Lf) (m d:Nat) (ty2:TypeId) (X:List Lf) (hX:AllL X) (Y:List Lf) (hY:AllL Y) (hne:((X++Y).map bq).Pairwise NeP) (hb:X.length+Y.length≤4000000) (g:Nat→SV):aB Tryd.prog GT 2 D (fill g 0 (MJ X Y (stT H X Y))) (mJ A ty B ty2 X Y (stT H X Y)) (aD tys fn (aR (aF.enc true) .none)):=by
 have ac:=acp.acc hX hY hne H hH E S
 have ok:=acp.aok hX hY hne H hH
 have le:(stT H X Y).length≤X.length:=by rw[hH];exact acp.sl hX hne
 have hL:=hX.app hY
 have e4:ak ((([]:List Value).drop (0+0)).take (0*64))=[]:=lope.lfDec0
 cases X with
 | nil=>
  cases Y with
  | nil=>
   have ac:chkT H E S (rofR H E S []).1 (rofR H E S []).1 (stT H [] []) []=0:=ac
   have e0:stT H [] []=[]:=by rw[hH];unfold stT;rw[tnd_nil];rfl
   rw[e0] at ac
   have q:=e H hH E hE' S hS' A n c ty B m d ty2 [] [] (stT H [] []) (rofR H E S []).1 (rofR H E S []).1 g
   rw[e4] at q
   exact Runs.aH aj mixed [0,1] q ⟨rfl,by omega,by omega,rfl,rfl,by omega,hX,rfl,by omega,Nat.le_refl _,rfl,rfl,hY,by omega,ac,trivial⟩ (by kernel_rfl) rfl fun g=>aD.ret (zr g _) rfl
  | cons y Y=>
   have dY:((lvals (y::Y)).drop (0+0)).take ((y::Y).length*64)=lvals (y::Y):=dtl rfl
   have ly:(lvals (y::Y)).length=(y::Y).length*64:=aZ _
   have py:0<(y::Y).length:=Nat.succ_pos _
   have hb:0+(y::Y).length≤4000000:=hb
   have ac:chkT H E S (rofR H E S []).1 (rofR H E S (y::Y)).1 (stT H [] (y::Y)) (y::Y)=0:=ac
   have e0:stT H [] (y::Y)=[]:=by rw[hH];unfold stT;rw[tnd_nil];rfl
   rw[e0] at ac
   have q:=ey H hH E hE' S hS' A n c ty B m d ty2 [] (y::Y) (stT H [] (y::Y)) (lvals (y::Y)) (y::Y).length (rofR H E S []).1 (rofR H E S (y::Y)).1 g
   rw[dY,dY,aV] at q
   exact Runs.aH aj mixed [0,1] q ⟨rfl,by omega,Nat.le_refl _,rfl,rfl,by omega,hY,rfl,by omega,Nat.le_refl _,rfl,py,roomLf _ (by omega),by omega,Nat.le_refl _,rfl,rfl,hY,by omega,ac,trivial⟩ (by kernel_rfl) rfl fun g=>aD.ret (zr g _) rfl
 | cons x X=>
  have hb:(x::X).length+Y.length≤4000000:=hb
  cases Y with
  | nil=>
   have dX:((lvals (x::X)).drop (0+0)).take ((x::X).length*64)=lvals (x::X):=dtl rfl
   have lx:(lvals (x::X)).length=(x::X).length*64:=aZ _
   have dT:((ah (stT H (x::X) [])).drop (0+0)).take ((stT H (x::X) []).length*65)=ah (stT H (x::X) []):=dtn rfl
   have lt:(ah (stT H (x::X) [])).length=(stT H (x::X) []).length*65:=aS _
   have dJ:((lvals (x::X)++([]:List Value)).drop (0+0)).take (((x::X).length+0)*64)=lvals (x::X):=by rw[List.append_nil];exact dtl rfl
   have lj:(lvals (x::X)++([]:List Value)).length=(x::X).length*64:=by rw[List.append_nil];exact lx
   have aX:(x::X)++([]:List Lf)=x::X:=List.append_nil _
   rw[aX] at ac
   have q:=ex H hH E hE' S hS' A n c ty B m d ty2 (x::X) [] (stT H (x::X) []) (lvals (x::X)++[]) (x::X).length (rofR H E S (x::X)).1 (rofR H E S (x::X)).1 g
   rw[dX,dJ,dT,aP,aV,e4] at q
   exact Runs.aH aj mixed [0,1] q ⟨by omega,Nat.le_refl _,rfl,rfl,by omega,hX,rfl,by omega,by omega,rfl,rfl,by omega,hX,rfl,by omega,Nat.le_refl _,by omega,Nat.le_refl _,rfl,rfl,ok,rfl,rfl,hY,by omega,ac,trivial⟩ (by kernel_rfl) rfl fun g=>aD.ret (zr g _) rfl
  | cons y Y=>
   have dX:((lvals (x::X)).drop (0+0)).take ((x::X).length*64)=lvals (x::X):=dtl rfl
   have lx:(lvals (x::X)).length=(x::X).length*64:=aZ _
   have dT:((ah (stT H (x::X) (y::Y))).drop (0+0)).take ((stT H (x::X) (y::Y)).length*65)=ah (stT H (x::X) (y::Y)):=dtn rfl
   have lt:(ah (stT H (x::X) (y::Y))).length=(stT H (x::X) (y::Y)).length*65:=aS _
   have dY:((lvals (y::Y)).drop (0+0)).take ((y::Y).length*64)=lvals (y::Y):=dtl rfl
   have ly:(lvals (y::Y)).length=(y::Y).length*64:=aZ _
   have py:0<(y::Y).length:=Nat.succ_pos _
   have lj:(x::X++y::Y).length=(x::X).length+(y::Y).length:=List.length_append
   have dJ:((lvals (x::X)++lvals (y::Y)).drop (0+0)).take (((x::X).length+(y::Y).length)*64)=lvals (x::X++y::Y):=by rw[←lvals_app];exact dtl lj
   have hb:(x::X).length+(y::Y).length≤4000000:=hb
   have q:=exy H hH E hE' S hS' A n ty B ty2 (x::X) (y::Y) (stT H (x::X) (y::Y)) (lvals (x::X)++lvals (y::Y)) ((x::X).length+(y::Y).length) (rofR H E S (x::X)).1 (rofR H E S (x::X++y::Y)).1 g
   rw[dX,dJ,dT,aP,aV,dY,dY,aV,aV] at q
   exact Runs.aH aj mixed [0,1] q ⟨by omega,Nat.le_refl _,rfl,rfl,by omega,hX,rfl,by rw[List.length_append];omega,Nat.le_refl _,rfl,lj,by omega,hL,rfl,by omega,Nat.le_refl _,rfl,py,roomLf _ (by omega),by omega,Nat.le_refl _,by omega,Nat.le_refl _,rfl,rfl,ok,rfl,rfl,hY,by omega,ac,trivial⟩ (by kernel_rfl) rfl fun g=>aD.ret (zr g _) rfl
theorem run (H:Nd→Nd→B32) (hH:H=hV) (E:B32) (hE':E=hE) (S:Nd→B32) (hS':S=hS) (A:List Lf) (n c:Nat) (ty:TypeId) (B:List Lf) (m d:Nat) (ty2:TypeId) (hn:A.length=n) (hc:n≤c) (hA:AllL A) (hm:B.length=m) (hd:m≤d) (hB:AllL B) (hb:n+m≤3000000):aB Tryd.prog GT 2 body (aG fn [.o (.a (.sld 0 0 0 n c)),.o (.a (.sld 1 0 0 m d))]) [⟨false,ty,.prv (lvals A)⟩,⟨false,ty2,.prv (lvals B)⟩] (aD tys fn (aR (aF.enc true) .none)):=by
 refine Runs.of_outNP aj mixed 2 [0,1] (s0 A n c ty B m d ty2 ) trivial (i0 A n c ty B m d ty2 ) (by kernel_rfl) fun g=> ?_
 rw[body2]
 refine Runs.seq (apart A n c ty B m d ty2 hn hc (by omega) hm hd (by omega) g fun g=> ?_)
 have hX:AllL (dstA A n):=fun z hz=>hA z (dstA_mem A n (by omega) z hz)
 have hx:=dstA_ne A n
 have lX:=dstA_len A n
 have hY:AllL (apB (dstA A n) B m):=fun z hz=>hB z (apB_mem _ B m (by omega) z hz)
 have hy:=apB_ne hx B m
 have lY:=apB_len (dstA A n) B m
 generalize apB (dstA A n) B m=Y at hY hy lY ⊢
 generalize dstA A n=X at hX hx lX hy ⊢
 refine Runs.seq (ww.stays H hH A n c ty B m d ty2 X hX Y hY hy (by omega) g fun g=> ?_)
 refine Runs.seq (ww.joined H hH A n c ty B m d ty2 X Y _ (by omega) g fun g=> ?_)
 exact ww.last H hH E hE' S hS' A n c ty B m d ty2 X hX Y hY hy (by omega) g
end ww
namespace wn
theorem run (H:Nd→Nd→B32) (hH:H=hV) (E:B32) (hE':E=hE) (S:Nd→B32) (hS':S=hS) (A:List Lf) (n c:Nat) (ty:TypeId) (b:Option Addr) (d:Nat) (ty2:TypeId) (hn:A.length=n) (hc:n≤c) (hA:AllL A) (hb:n≤3000000):aB Tryd.prog GT 2 body (aG fn [.o (.a (.sld 0 0 0 n c)),.o (.a (.v (.slice b 0 0)))]) [⟨false,ty,.prv (lvals A)⟩,⟨false,ty2,.prv (lvals [])⟩] (aD tys fn (aR (aF.enc true) .none)):=by
 refine Runs.of_outNP aj mixed 2 [0,1] (s0 A n c ty b ty2 ) trivial (i0 A n c ty b ty2 ) (by kernel_rfl) fun g=> ?_
 rw[body2]
 refine Runs.seq (apart A n c ty b d ty2 hn hc (by omega) g fun g=> ?_)
 have hX:AllL (dstA A n):=fun z hz=>hA z (dstA_mem A n (by omega) z hz)
 have hx:=dstA_ne A n
 have lX:=dstA_len A n
 generalize dstA A n=X at hX hx lX ⊢
 refine Runs.seq (ww.stays H hH A n c ty [] 0 d ty2 X hX [] (fun z hz=>(by cases hz)) (by rw[List.append_nil];exact hx) (by show X.length+0≤_;omega) g fun g=> ?_)
 refine Runs.seq (ww.joined H hH A n c ty [] 0 d ty2 X [] _ (by show X.length+0≤_;omega) g fun g=> ?_)
 exact ww.last H hH E hE' S hS' A n c ty [] 0 d ty2 X hX [] (fun z hz=>(by cases hz)) (by rw[List.append_nil];exact hx) (by show X.length+0≤_;omega) g
end wn
namespace nw
theorem run (H:Nd→Nd→B32) (hH:H=hV) (E:B32) (hE':E=hE) (S:Nd→B32) (hS':S=hS) (a:Option Addr) (c:Nat) (ty:TypeId) (B:List Lf) (m d:Nat) (ty2:TypeId) (hm:B.length=m) (hd:m≤d) (hB:AllL B) (hb:m≤3000000):aB Tryd.prog GT 2 body (aG fn [.o (.a (.v (.slice a 0 0))),.o (.a (.sld 1 0 0 m d))]) [⟨false,ty,.prv (lvals [])⟩,⟨false,ty2,.prv (lvals B)⟩] (aD tys fn (aR (aF.enc true) .none)):=by
 refine Runs.of_outNP aj mixed 2 [0,1] (s0 a ty B m d ty2 ) trivial (i0 a ty B m d ty2 ) (by kernel_rfl) fun g=> ?_
 rw[body2]
 refine Runs.seq (apart a c ty B m d ty2 hm hd (by omega) g fun g=> ?_)
 have hY:AllL (apB [] B m):=fun z hz=>hB z (apB_mem _ B m (by omega) z hz)
 have hy:=apB_ne (X:=[]) List.Pairwise.nil B m
 have lY:=apB_len [] B m
 generalize apB [] B m=Y at hY hy lY ⊢
 refine Runs.seq (ww.stays H hH [] 0 c ty B m d ty2 [] (fun z hz=>(by cases hz)) Y hY hy (by show 0+Y.length≤_;omega) g fun g=> ?_)
 refine Runs.seq (ww.joined H hH [] 0 c ty B m d ty2 [] Y _ (by show 0+Y.length≤_;omega) g fun g=> ?_)
 exact ww.last H hH E hE' S hS' [] 0 c ty B m d ty2 [] (fun z hz=>(by cases hz)) Y hY hy (by show 0+Y.length≤_;omega) g
end nw
namespace nn
theorem run (H:Nd→Nd→B32) (hH:H=hV) (E:B32) (hE':E=hE) (S:Nd→B32) (hS':S=hS) (a:Option Addr) (c:Nat) (ty:TypeId) (b:Option Addr) (d:Nat) (ty2:TypeId):aB Tryd.prog GT 2 body (aG fn [.o (.a (.v (.slice a 0 0))),.o (.a (.v (.slice b 0 0)))]) [⟨false,ty,.prv (lvals [])⟩,⟨false,ty2,.prv (lvals [])⟩] (aD tys fn (aR (aF.enc true) .none)):=by
 refine Runs.of_outNP aj mixed 2 [0,1] (s0 a ty b ty2 ) trivial (i0 a ty b ty2 ) (by kernel_rfl) fun g=> ?_
 rw[body2]
 refine Runs.seq (apart a c ty b d ty2 g fun g=> ?_)
 refine Runs.seq (ww.stays H hH [] 0 c ty [] 0 d ty2 [] (fun z hz=>(by cases hz)) [] (fun z hz=>(by cases hz)) List.Pairwise.nil (by decide) g fun g=> ?_)
 refine Runs.seq (ww.joined H hH [] 0 c ty [] 0 d ty2 [] [] _ (by decide) g fun g=> ?_)
 exact ww.last H hH E hE' S hS' [] 0 c ty [] 0 d ty2 [] (fun z hz=>(by cases hz)) [] (fun z hz=>(by cases hz)) List.Pairwise.nil (by decide) g
end nn
end lgac
end Go.Proofs.YtdccehmekkcheaaDoor
