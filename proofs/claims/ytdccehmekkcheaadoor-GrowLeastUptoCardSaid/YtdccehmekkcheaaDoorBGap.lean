/- Laws of growth: the region that calls apart. -/
import Derived.Test.YtdccehmekkcheaaDoorBFo
import Derived.Test.YtdccehmekkcheaaDoorBMTF
import Derived.Test.YtdccehmekkcheaaDoorBGaw
namespace Go.Proofs.YtdccehmekkcheaaDoor
open Go Go.Eng Go.RowKit
set_option linter.unusedVariables false
set_option linter.unusedSimpArgs false
set_option maxRecDepth 100000
def tsOf (o:Oper):Array TypeId:=match o.op with
 | .call ⟨_,_,ts⟩=>ts
 | _=> #[]
def decOf (d:Option (List PArg × List Ent3 × Cst)):List PArg × List Ent3 × Cst:=match d with
 | some x=>x
 | none=>([],[],[])
namespace lglt
noncomputable abbrev fn:=Tryd.f11
noncomputable def body:Code:=bF fn
noncomputable def R3:Code:=cs1 (csuf 2 body)
theorem len3:(opsOf R3).toList.length=8:=by kernel_rfl
noncomputable def i3:Nat:=match R3 with | .region i _ _=>i | _=>0
theorem reg3:R3= .region i3 (opsOf R3) false:=by kernel_rfl
noncomputable def o3:Oper:=(opsOf R3).toList[2]'(by rw[len3];decide)
theorem drop3:(opsOf R3).toList.drop 2=o3::(opsOf R3).toList.drop 3:=by kernel_rfl
theorem nil3:((opsOf R3).toList.drop 3).drop 5=[]:=by kernel_rfl
theorem o3_op:o3.op= .call ⟨.value (.func 50), #[.tmp 17,.tmp 18],tsOf o3⟩:=by kernel_rfl
theorem o3_dst:o3.dst=some 19:=by kernel_rfl
theorem o3_gd:o3.guard=none:=by kernel_rfl
noncomputable def Γ0:Cons Tryd.prog GT:=[awk12.con]
noncomputable def ΓN:Cons Tryd.prog GT:=[apt.con0]
noncomputable def ΓX:Cons Tryd.prog GT:=[apt.conX]
noncomputable def ΓY:Cons Tryd.prog GT:=[apt.conY]
noncomputable def ΓE:Cons Tryd.prog GT:=[]
namespace ww
def m0 (A:List Lf) (ty:TypeId) (B:List Lf) (ty2:TypeId):List Blk:=[⟨false,ty,.prv (lvals A)⟩,⟨false,ty2,.prv (lvals B)⟩]
def M0 (n c:Nat) (m d:Nat):List (Option SV):=aD 103 0 [(0,.o (.a (.sld 0 0 0 n c))),(1,.o (.a (.sld 1 0 0 m d)))]
theorem i0 (A:List Lf) (n c:Nat) (ty:TypeId) (B:List Lf) (m d:Nat) (ty2:TypeId):oI (M0 n c m d) (m0 A ty B ty2):=by delta oI;kernel_rfl
theorem s0 (A:List Lf) (n c:Nat) (ty:TypeId) (B:List Lf) (m d:Nat) (ty2:TypeId):oN [0,1] Γ0 100 (cpre 2 body) (aG fn [.o (.a (.sld 0 0 0 n c)),.o (.a (.sld 1 0 0 m d))]) (m0 A ty B ty2) [] .normal (M0 n c m d) (m0 A ty B ty2) []:=by delta oN;kernel_rfl
def m1 (A:List Lf) (ty:TypeId) (B:List Lf) (ty2:TypeId):List Blk:=[⟨false,ty,.prv (lvals A)⟩,⟨false,ty2,.prv (lvals B)⟩]
def M1:List (Option SV):=aD 103 0 [(5,.o (.a (.v (.slice none 0 0)))),(6,.o (.a (.v (.slice none 0 0))))]
theorem i1 (A:List Lf) (ty:TypeId) (B:List Lf) (ty2:TypeId):oI (M1) (m1 A ty B ty2):=by delta oI;kernel_rfl
def m1x (A:List Lf) (ty:TypeId) (B:List Lf) (ty2:TypeId) (X:List Lf):List Blk:=[⟨false,ty,.prv (lvals A)⟩,⟨false,ty2,.prv (lvals B)⟩,⟨true,30,.grv 64 (lvals X) X.length none⟩]
def M1x (X:List Lf):List (Option SV):=aD 103 0 [(5,.o (.a (.slg 2 X.length))),(6,.o (.a (.v (.slice none 0 0))))]
theorem i1x (A:List Lf) (ty:TypeId) (B:List Lf) (ty2:TypeId) (X:List Lf):oI (M1x X) (m1x A ty B ty2 X):=by delta oI;kernel_rfl
def m1y (A:List Lf) (ty:TypeId) (B:List Lf) (ty2:TypeId) (Y:List Lf):List Blk:=[⟨false,ty,.prv (lvals A)⟩,⟨false,ty2,.prv (lvals B)⟩,⟨true,30,.grv 64 (lvals Y) Y.length none⟩]
def M1y (Y:List Lf):List (Option SV):=aD 103 0 [(5,.o (.a (.v (.slice none 0 0)))),(6,.o (.a (.slg 2 Y.length)))]
theorem i1y (A:List Lf) (ty:TypeId) (B:List Lf) (ty2:TypeId) (Y:List Lf):oI (M1y Y) (m1y A ty B ty2 Y):=by delta oI;kernel_rfl
def m1xy (A:List Lf) (ty:TypeId) (B:List Lf) (ty2:TypeId) (X Y:List Lf):List Blk:=[⟨false,ty,.prv (lvals A)⟩,⟨false,ty2,.prv (lvals B)⟩,⟨true,30,.grv 64 (lvals X) X.length none⟩,⟨true,30,.grv 64 (lvals Y) Y.length none⟩]
def M1xy (X Y:List Lf):List (Option SV):=aD 103 0 [(5,.o (.a (.slg 2 X.length))),(6,.o (.a (.slg 3 Y.length)))]
theorem i1xy (A:List Lf) (ty:TypeId) (B:List Lf) (ty2:TypeId) (X Y:List Lf):oI (M1xy X Y) (m1xy A ty B ty2 X Y):=by delta oI;kernel_rfl
def MP (X Y:List Lf):List (Option SV):=match X,Y with
 | [],[]=>M1
 | x::X,[]=>M1x (x::X)
 | [],y::Y=>M1y (y::Y)
 | x::X,y::Y=>M1xy (x::X) (y::Y)
def mP (A:List Lf) (ty:TypeId) (B:List Lf) (ty2:TypeId) (X Y:List Lf):List Blk:=match X,Y with
 | [],[]=>m1 A ty B ty2
 | x::X,[]=>m1x A ty B ty2 (x::X)
 | [],y::Y=>m1y A ty B ty2 (y::Y)
 | x::X,y::Y=>m1xy A ty B ty2 (x::X) (y::Y)
section
variable (A:List Lf) (n c:Nat) (ty:TypeId) (B:List Lf) (m d:Nat) (ty2:TypeId) (g:Nat→SV)
theorem ca:oN [0,1] ΓN 100 R3 (fill g 0 (M0 n c m d )) (m0 A ty B ty2) [] .normal (ww.M1) (ww.m1 A ty B ty2) [0+0+n*64≤(lvals A).length,n≤c,0+0+m*64≤(lvals B).length,m≤d,(dstA (ak (((lvals A).drop (0+0)).take (n*64))) n)=[],(apB (dstA (ak (((lvals A).drop (0+0)).take (n*64))) n) (ak (((lvals B).drop (0+0)).take (m*64))) m)=[],((lvals A).drop (0+0)).take (n*64)=lvals (ak (((lvals A).drop (0+0)).take (n*64))),(ak (((lvals A).drop (0+0)).take (n*64))).length=n,n≤4000000,((lvals B).drop (0+0)).take (m*64)=lvals (ak (((lvals B).drop (0+0)).take (m*64))),(ak (((lvals B).drop (0+0)).take (m*64))).length=m,m≤4000000]:=by delta oN;kernel_rfl
theorem cax:oN [0,1,2] ΓX 100 R3 (fill g 0 (M0 n c m d )) (m0 A ty B ty2) [] .normal (ww.M1x (dstA (ak (((lvals A).drop (0+0)).take (n*64))) n)) (ww.m1x A ty B ty2 (dstA (ak (((lvals A).drop (0+0)).take (n*64))) n)) [0+0+n*64≤(lvals A).length,n≤c,0+0+m*64≤(lvals B).length,m≤d,(dstA (ak (((lvals A).drop (0+0)).take (n*64))) n)≠[],(apB (dstA (ak (((lvals A).drop (0+0)).take (n*64))) n) (ak (((lvals B).drop (0+0)).take (m*64))) m)=[],((lvals A).drop (0+0)).take (n*64)=lvals (ak (((lvals A).drop (0+0)).take (n*64))),(ak (((lvals A).drop (0+0)).take (n*64))).length=n,n≤4000000,((lvals B).drop (0+0)).take (m*64)=lvals (ak (((lvals B).drop (0+0)).take (m*64))),(ak (((lvals B).drop (0+0)).take (m*64))).length=m,m≤4000000]:=by delta oN;kernel_rfl
theorem cay:oN [0,1,2] ΓY 100 R3 (fill g 0 (M0 n c m d )) (m0 A ty B ty2) [] .normal (ww.M1y (apB (dstA (ak (((lvals A).drop (0+0)).take (n*64))) n) (ak (((lvals B).drop (0+0)).take (m*64))) m)) (ww.m1y A ty B ty2 (apB (dstA (ak (((lvals A).drop (0+0)).take (n*64))) n) (ak (((lvals B).drop (0+0)).take (m*64))) m)) [0+0+n*64≤(lvals A).length,n≤c,0+0+m*64≤(lvals B).length,m≤d,(dstA (ak (((lvals A).drop (0+0)).take (n*64))) n)=[],(apB (dstA (ak (((lvals A).drop (0+0)).take (n*64))) n) (ak (((lvals B).drop (0+0)).take (m*64))) m)≠[],((lvals A).drop (0+0)).take (n*64)=lvals (ak (((lvals A).drop (0+0)).take (n*64))),(ak (((lvals A).drop (0+0)).take (n*64))).length=n,n≤4000000,((lvals B).drop (0+0)).take (m*64)=lvals (ak (((lvals B).drop (0+0)).take (m*64))),(ak (((lvals B).drop (0+0)).take (m*64))).length=m,m≤4000000]:=by delta oN;kernel_rfl
end
def M2 (n c:Nat) (m d:Nat):List (Option SV):=aD 103 0 [(17,.o (.a (.sld 0 0 0 n c))),(18,.o (.a (.sld 1 0 0 m d)))]
theorem i2 (A:List Lf) (n c:Nat) (ty:TypeId) (B:List Lf) (m d:Nat) (ty2:TypeId):oI (M2 n c m d) (m0 A ty B ty2):=by delta oI;kernel_rfl
theorem u (A:List Lf) (n c:Nat) (ty:TypeId) (B:List Lf) (m d:Nat) (ty2:TypeId) (g:Nat→SV):oU [0,1] ΓE R3 0 2 (fill g 0 (M0 n c m d )) (m0 A ty B ty2) [] (M2 n c m d) (m0 A ty B ty2) []:=by delta oU;kernel_rfl
def M4 (n c:Nat) (m d:Nat) (X Y:List Lf):List (Option SV):=aD 103 0 [(17,.o (.a (.sld 0 0 0 n c))),(18,.o (.a (.sld 1 0 0 m d))),(19,resSV [.a (.slg 2 X.length),.a (.slg 3 Y.length)])]
section
variable (A:List Lf) (n c:Nat) (ty:TypeId) (B:List Lf) (m d:Nat) (ty2:TypeId)
theorem setT (X Y:List Lf) (g:Nat→SV):(fill g 0 (M2 n c m d )).set 19 ((resSV [.a (.slg 0 X.length),.a (.slg 1 Y.length)]).ren (fun i=>(m0 A ty B ty2 ).length+i))=fill g 0 (M4 n c m d X Y):=by kernel_rfl
theorem v (X Y:List Lf) (g:Nat→SV):oU [0,1,2,3] ΓE R3 3 5 (fill g 0 (M4 n c m d X Y)) (m1xy A ty B ty2 X Y) [] (M1xy X Y) (m1xy A ty B ty2 X Y) []:=by delta oU;kernel_rfl
noncomputable def dl (g:Nat→SV):=decOf (decL (fun k=>(m0 A ty B ty2 )[k]?) [] [.winv 64,.winv 64] ((#[.tmp 17,.tmp 18]:Array Operand).toList.map (rhoL (fill g 0 (M2 n c m d )))))
theorem dl_eq (g:Nat→SV):decL (fun k=>(m0 A ty B ty2 )[k]?) [] [.winv 64,.winv 64] ((#[.tmp 17,.tmp 18]:Array Operand).toList.map (rhoL (fill g 0 (M2 n c m d ))))=some ((dl A n c ty B m d ty2 g).1,(dl A n c ty B m d ty2 g).2.1,(dl A n c ty B m d ty2 g).2.2):=by kernel_rfl
theorem dl_c (g:Nat→SV):(dl A n c ty B m d ty2 g).2.2=[0+0+n*64≤(lvals A).length,n≤c,0+0+m*64≤(lvals B).length,m≤d]:=by kernel_rfl
theorem dl_ap (g:Nat→SV):apartL (dl A n c ty B m d ty2 g).2.1 (aM (dl A n c ty B m d ty2 g).1)=true:=by kernel_rfl
theorem dl_ls (g:Nat→SV):apt.lists (dl A n c ty B m d ty2 g).1=some (((ak (((lvals A).drop (0+0)).take (n*64))),n),((ak (((lvals B).drop (0+0)).take (m*64))),m),[((lvals A).drop (0+0)).take (n*64)=lvals (ak (((lvals A).drop (0+0)).take (n*64))),(ak (((lvals A).drop (0+0)).take (n*64))).length=n,n≤4000000,((lvals B).drop (0+0)).take (m*64)=lvals (ak (((lvals B).drop (0+0)).take (m*64))),(ak (((lvals B).drop (0+0)).take (m*64))).length=m,m≤4000000]):=by kernel_rfl
theorem apart (hn:A.length=n) (hc:n≤c) (hb:n≤4000000) (hm:B.length=m) (hd:m≤d) (hl:m≤4000000) (g:Nat→SV) {Post:Ex→List SV→List Blk→Prop} (h:∀g,Post .normal (fill g 0 (ww.MP (dstA A n) (apB (dstA A n) B m))) (ww.mP A ty B ty2 (dstA A n) (apB (dstA A n) B m))):aB Tryd.prog GT 2 R3 (fill g 0 (M0 n c m d )) (m0 A ty B ty2 ) Post:=by
 have dA:((lvals A).drop (0+0)).take (n*64)=lvals A:=dtl hn
 have la:(lvals A).length=n*64:=by rw[←hn];exact bE A
 have dB:((lvals B).drop (0+0)).take (m*64)=lvals B:=dtl hm
 have lb:(lvals B).length=m*64:=by rw[←hm];exact bE B
 cases hx:dstA A n with
 | nil=>
  rw[hx] at h
  cases hy:apB [] B m with
  | nil=>
   have q:=ca A n c ty B m d ty2 g
   rw[dA,aY,dB,aY,hx,hy] at q
   rw[hy] at h
   exact Runs.aK aj mixed [0,1] q ⟨by omega,hc,by omega,hd,rfl,rfl,rfl,hn,hb,rfl,hm,hl,trivial⟩ (ww.i1 A ty B ty2) (by kernel_rfl) h
  | cons y Y=>
   have q:=cay A n c ty B m d ty2 g
   rw[dA,aY,dB,aY,hx,hy] at q
   rw[hy] at h
   exact Runs.aK aj mixed [0,1,2] q ⟨by omega,hc,by omega,hd,rfl,List.cons_ne_nil _ _,rfl,hn,hb,rfl,hm,hl,trivial⟩ (ww.i1y A ty B ty2 _) (by kernel_rfl) h
 | cons x X=>
  rw[hx] at h
  cases hy:apB (x::X) B m with
  | nil=>
   have q:=cax A n c ty B m d ty2 g
   rw[dA,aY,dB,aY,hx,hy] at q
   rw[hy] at h
   exact Runs.aK aj mixed [0,1,2] q ⟨by omega,hc,by omega,hd,List.cons_ne_nil _ _,rfl,rfl,hn,hb,rfl,hm,hl,trivial⟩ (ww.i1x A ty B ty2 _) (by kernel_rfl) h
  | cons y Y=>
   rw[hy] at h
   rw[reg3]
   refine Runs.region ?_
   refine aO.aK aj 2 [0,1] (u A n c ty B m d ty2 g) trivial (i2 A n c ty B m d ty2 ) rfl fun g=> ?_
   rw[drop3]
   have ls:=dl_ls A n c ty B m d ty2 g
   rw[dA,aY,dB,aY] at ls
   refine apt.call2 o3_op o3_dst o3_gd (dl_eq A n c ty B m d ty2 g) (by rw[dl_c];exact⟨by omega,hc,by omega,hd,trivial⟩) (dl_ap A n c ty B m d ty2 g) ls ⟨rfl,hn,hb,rfl,hm,hl,trivial⟩ (by show dstA A n≠[];rw[hx];exact List.cons_ne_nil _ _) (by show apB (dstA A n) B m≠[];rw[hx,hy];exact List.cons_ne_nil _ _) ?_
   show aO _ _ _ _ _ (List.set _ _ ((resSV [.a (.slg 0 (dstA A n).length),.a (.slg 1 (apB (dstA A n) B m).length)]).ren _)) (_++[⟨true,30,.grv 64 (lvals (dstA A n)) (dstA A n).length none⟩,⟨true,30,.grv 64 (lvals (apB (dstA A n) B m)) (apB (dstA A n) B m).length none⟩]) _
   rw[hx,hy,setT]
   refine aO.aK aj 5 [0,1,2,3] (v A n c ty B m d ty2 (x::X) (y::Y) g) trivial (i1xy A ty B ty2 _ _) rfl fun g=> ?_
   rw[nil3]
   exact aO.nil (h g)
end
end ww
namespace wn
def m0 (A:List Lf) (ty:TypeId) (ty2:TypeId):List Blk:=[⟨false,ty,.prv (lvals A)⟩,⟨false,ty2,.prv (lvals [])⟩]
def M0 (n c:Nat) (b:Option Addr):List (Option SV):=aD 103 0 [(0,.o (.a (.sld 0 0 0 n c))),(1,.o (.a (.v (.slice b 0 0))))]
section
variable (A:List Lf) (n c:Nat) (ty:TypeId) (b:Option Addr)
theorem i0 (ty2:TypeId):oI (M0 n c b) (m0 A ty ty2):=by delta oI;kernel_rfl
theorem s0 (ty2:TypeId):oN [0,1] Γ0 100 (cpre 2 body) (aG fn [.o (.a (.sld 0 0 0 n c)),.o (.a (.v (.slice b 0 0)))]) (m0 A ty ty2) [] .normal (M0 n c b) (m0 A ty ty2) []:=by delta oN;kernel_rfl
theorem ca (ty2:TypeId) (g:Nat→SV):oN [0,1] ΓN 100 R3 (fill g 0 (M0 n c b )) (m0 A ty ty2) [] .normal (ww.M1) (ww.m1 A ty [] ty2) [0+0+n*64≤(lvals A).length,n≤c,(dstA (ak (((lvals A).drop (0+0)).take (n*64))) n)=[],(apB (dstA (ak (((lvals A).drop (0+0)).take (n*64))) n) [] 0)=[],((lvals A).drop (0+0)).take (n*64)=lvals (ak (((lvals A).drop (0+0)).take (n*64))),(ak (((lvals A).drop (0+0)).take (n*64))).length=n,n≤4000000]:=by delta oN;kernel_rfl
theorem cax (ty2:TypeId) (g:Nat→SV):oN [0,1,2] ΓX 100 R3 (fill g 0 (M0 n c b )) (m0 A ty ty2) [] .normal (ww.M1x (dstA (ak (((lvals A).drop (0+0)).take (n*64))) n)) (ww.m1x A ty [] ty2 (dstA (ak (((lvals A).drop (0+0)).take (n*64))) n)) [0+0+n*64≤(lvals A).length,n≤c,(dstA (ak (((lvals A).drop (0+0)).take (n*64))) n)≠[],(apB (dstA (ak (((lvals A).drop (0+0)).take (n*64))) n) [] 0)=[],((lvals A).drop (0+0)).take (n*64)=lvals (ak (((lvals A).drop (0+0)).take (n*64))),(ak (((lvals A).drop (0+0)).take (n*64))).length=n,n≤4000000]:=by delta oN;kernel_rfl
theorem apart (d:Nat) (ty2:TypeId) (hn:A.length=n) (hc:n≤c) (hb:n≤4000000) (g:Nat→SV) {Post:Ex→List SV→List Blk→Prop} (h:∀g,Post .normal (fill g 0 (ww.MP (dstA A n) [])) (ww.mP A ty [] ty2 (dstA A n) [])):aB Tryd.prog GT 2 R3 (fill g 0 (M0 n c b )) (m0 A ty ty2 ) Post:=by
 have dA:((lvals A).drop (0+0)).take (n*64)=lvals A:=dtl hn
 have la:(lvals A).length=n*64:=by rw[←hn];exact bE A
 cases hx:dstA A n with
 | nil=>
  rw[hx] at h
  have q:=ca A n c ty b ty2 g
  rw[dA,aY,hx] at q
  exact Runs.aK aj mixed [0,1] q ⟨by omega,hc,rfl,rfl,rfl,hn,hb,trivial⟩ (ww.i1 A ty [] ty2) (by kernel_rfl) h
 | cons x X=>
  rw[hx] at h
  have q:=cax A n c ty b ty2 g
  rw[dA,aY,hx] at q
  exact Runs.aK aj mixed [0,1,2] q ⟨by omega,hc,List.cons_ne_nil _ _,rfl,rfl,hn,hb,trivial⟩ (ww.i1x A ty [] ty2 _) (by kernel_rfl) h
end
end wn
namespace nw
def m0 (ty:TypeId) (B:List Lf) (ty2:TypeId):List Blk:=[⟨false,ty,.prv (lvals [])⟩,⟨false,ty2,.prv (lvals B)⟩]
section
variable (a:Option Addr)
def M0 (m d:Nat):List (Option SV):=aD 103 0 [(0,.o (.a (.v (.slice a 0 0)))),(1,.o (.a (.sld 1 0 0 m d)))]
theorem i0 (ty:TypeId) (B:List Lf) (m d:Nat) (ty2:TypeId):oI (M0 a m d) (m0 ty B ty2):=by delta oI;kernel_rfl
theorem s0 (ty:TypeId) (B:List Lf) (m d:Nat) (ty2:TypeId):oN [0,1] Γ0 100 (cpre 2 body) (aG fn [.o (.a (.v (.slice a 0 0))),.o (.a (.sld 1 0 0 m d))]) (m0 ty B ty2) [] .normal (M0 a m d) (m0 ty B ty2) []:=by delta oN;kernel_rfl
theorem ca (ty:TypeId) (B:List Lf) (m d:Nat) (ty2:TypeId) (g:Nat→SV):oN [0,1] ΓN 100 R3 (fill g 0 (M0 a m d )) (m0 ty B ty2) [] .normal (ww.M1) (ww.m1 [] ty B ty2) [0+0+m*64≤(lvals B).length,m≤d,(dstA [] 0)=[],(apB (dstA [] 0) (ak (((lvals B).drop (0+0)).take (m*64))) m)=[],((lvals B).drop (0+0)).take (m*64)=lvals (ak (((lvals B).drop (0+0)).take (m*64))),(ak (((lvals B).drop (0+0)).take (m*64))).length=m,m≤4000000]:=by delta oN;kernel_rfl
theorem cay (ty:TypeId) (B:List Lf) (m d:Nat) (ty2:TypeId) (g:Nat→SV):oN [0,1,2] ΓY 100 R3 (fill g 0 (M0 a m d )) (m0 ty B ty2) [] .normal (ww.M1y (apB (dstA [] 0) (ak (((lvals B).drop (0+0)).take (m*64))) m)) (ww.m1y [] ty B ty2 (apB (dstA [] 0) (ak (((lvals B).drop (0+0)).take (m*64))) m)) [0+0+m*64≤(lvals B).length,m≤d,(dstA [] 0)=[],(apB (dstA [] 0) (ak (((lvals B).drop (0+0)).take (m*64))) m)≠[],((lvals B).drop (0+0)).take (m*64)=lvals (ak (((lvals B).drop (0+0)).take (m*64))),(ak (((lvals B).drop (0+0)).take (m*64))).length=m,m≤4000000]:=by delta oN;kernel_rfl
theorem apart (c:Nat) (ty:TypeId) (B:List Lf) (m d:Nat) (ty2:TypeId) (hm:B.length=m) (hd:m≤d) (hl:m≤4000000) (g:Nat→SV) {Post:Ex→List SV→List Blk→Prop} (h:∀g,Post .normal (fill g 0 (ww.MP [] (apB [] B m))) (ww.mP [] ty B ty2 [] (apB [] B m))):aB Tryd.prog GT 2 R3 (fill g 0 (M0 a m d )) (m0 ty B ty2 ) Post:=by
 have dB:((lvals B).drop (0+0)).take (m*64)=lvals B:=dtl hm
 have lb:(lvals B).length=m*64:=by rw[←hm];exact bE B
 have e0:dstA ([]:List Lf) 0=[]:=rfl
 cases hy:apB [] B m with
 | nil=>
  rw[hy] at h
  have q:=ca a ty B m d ty2 g
  rw[dB,aY,e0,hy] at q
  exact Runs.aK aj mixed [0,1] q ⟨by omega,hd,rfl,rfl,rfl,hm,hl,trivial⟩ (ww.i1 [] ty B ty2) (by kernel_rfl) h
 | cons y Y=>
  rw[hy] at h
  have q:=cay a ty B m d ty2 g
  rw[dB,aY,e0,hy] at q
  exact Runs.aK aj mixed [0,1,2] q ⟨by omega,hd,rfl,List.cons_ne_nil _ _,rfl,hm,hl,trivial⟩ (ww.i1y [] ty B ty2 _) (by kernel_rfl) h
end
end nw
namespace nn
def m0 (ty:TypeId) (ty2:TypeId):List Blk:=[⟨false,ty,.prv (lvals [])⟩,⟨false,ty2,.prv (lvals [])⟩]
def M0 (a:Option Addr) (b:Option Addr):List (Option SV):=aD 103 0 [(0,.o (.a (.v (.slice a 0 0)))),(1,.o (.a (.v (.slice b 0 0))))]
section
variable (a:Option Addr) (ty:TypeId) (b:Option Addr) (ty2:TypeId)
theorem i0:oI (M0 a b) (m0 ty ty2):=by delta oI;kernel_rfl
theorem s0:oN [0,1] Γ0 100 (cpre 2 body) (aG fn [.o (.a (.v (.slice a 0 0))),.o (.a (.v (.slice b 0 0)))]) (m0 ty ty2) [] .normal (M0 a b) (m0 ty ty2) []:=by delta oN;kernel_rfl
theorem ca (g:Nat→SV):oN [0,1] ΓN 100 R3 (fill g 0 (M0 a b )) (m0 ty ty2) [] .normal (ww.M1) (ww.m1 [] ty [] ty2) [(dstA [] 0)=[],(apB (dstA [] 0) [] 0)=[]]:=by delta oN;kernel_rfl
end
theorem apart (a:Option Addr) (c:Nat) (ty:TypeId) (b:Option Addr) (d:Nat) (ty2:TypeId) (g:Nat→SV) {Post:Ex→List SV→List Blk→Prop} (h:∀g,Post .normal (fill g 0 (ww.MP [] [])) (ww.mP [] ty [] ty2 [] [])):aB Tryd.prog GT 2 R3 (fill g 0 (M0 a b )) (m0 ty ty2 ) Post:=by
 have q:=ca a ty b ty2 g
 exact Runs.aK aj mixed [0,1] q ⟨rfl,rfl,trivial⟩ (ww.i1 [] ty [] ty2) (by kernel_rfl) h
end nn
end lglt
end Go.Proofs.YtdccehmekkcheaaDoor
