/- The law GrowStays: walk. -/
import Derived.Test.YtdccehmekkcheaaDoorJGaw
import Derived.Test.YtdccehmekkcheaaDoorJOpn
namespace Go.Proofs.YtdccehmekkcheaaDoor
open Go Go.Eng Go.RowKit
set_option linter.unusedVariables false
set_option linter.unusedSimpArgs false
set_option maxRecDepth 100000
theorem ap_of {l:List Lf} (h:AllL l):aK (tndV l)= !(rndD l l.length):=ap_dup h
theorem st_nil (H:Nd→Nd→B32) (B:List Lf):stT H [] B=[]:=by unfold stT;rw[tnd_nil,aroV_nil]
theorem AllL.nil:AllL []:=fun z hz=>by cases hz
namespace lgst
noncomputable abbrev fn:=Tryd.f8
noncomputable def body:Code:=bI fn
noncomputable def R4:Code:=cs1 (csuf 3 body)
noncomputable def D:Code:=csuf 4 body
noncomputable def i4:Nat:=match R4 with | .region i _ _=>i | _=>0
theorem suf_3:csuf 3 body= .seq (.region i4 (opsOf R4) false) D:=by kernel_rfl
theorem nil4:((opsOf R4).toList.drop 2).drop 8=[]:=by kernel_rfl
def MR:List (Option SV):=aA 33 0 [(4,.o (.a (.v (.bool true))))]
theorem zr (g:Nat→SV) (mm:Nat→Option Blk):eRes tys (fill g 0 MR) mm fn.results.toList=some [.a (bool1 true)]:=by kernel_rfl
noncomputable def Γ5:Cons Tryd.prog GT:=[smn.con]
noncomputable def Γ3E (H:Nd→Nd→B32) (hH:H=hV):Cons Tryd.prog GT:=[awk12.con,rst.conE H hH]
noncomputable def Γ3P (H:Nd→Nd→B32) (hH:H=hV):Cons Tryd.prog GT:=[awk12.con,rst.conP H hH]
noncomputable def Γ3Z (H:Nd→Nd→B32) (hH:H=hV):Cons Tryd.prog GT:=[awk12.con,rst.conZ H hH]
noncomputable def ΓaP:Cons Tryd.prog GT:=[cpl12.conP]
noncomputable def ΓbPE (H:Nd→Nd→B32) (hH:H=hV):Cons Tryd.prog GT:=[cpl12.conP,gst.conE H hH]
noncomputable def ΓbPP (H:Nd→Nd→B32) (hH:H=hV):Cons Tryd.prog GT:=[cpl12.conP,gst.conP H hH]
noncomputable def ΓbPZ (H:Nd→Nd→B32) (hH:H=hV):Cons Tryd.prog GT:=[cpl12.conP,gst.conZ H hH]
noncomputable def ΓaZ:Cons Tryd.prog GT:=[cpl12.conZ]
noncomputable def ΓbZE (H:Nd→Nd→B32) (hH:H=hV):Cons Tryd.prog GT:=[cpl12.conZ,gst.conE H hH]
noncomputable def ΓbZP (H:Nd→Nd→B32) (hH:H=hV):Cons Tryd.prog GT:=[cpl12.conZ,gst.conP H hH]
noncomputable def ΓbZZ (H:Nd→Nd→B32) (hH:H=hV):Cons Tryd.prog GT:=[cpl12.conZ,gst.conZ H hH]
namespace pp
section
variable (H:Nd→Nd→B32)
def m0 (hH:H=hV) (A:List Lf) (n c:Nat) (ty:TypeId) (B:List Lf) (m d:Nat) (ty2:TypeId):List Blk:=[⟨false,ty,.prv (lvals A)⟩,⟨false,ty2,.prv (lvals B)⟩]
theorem iR (hH:H=hV) (A:List Lf) (n c:Nat) (ty:TypeId) (B:List Lf) (m d:Nat) (ty2:TypeId):ay (m0 H hH A n c ty B m d ty2 ).length (MR) (m0 H hH A n c ty B m d ty2 )=true:=by kernel_rfl
def m3E (hH:H=hV) (A:List Lf) (n c:Nat) (ty:TypeId) (B:List Lf) (m d:Nat) (ty2:TypeId):List Blk:=[⟨false,ty,.prv (lvals A)⟩,⟨false,ty2,.prv (lvals B)⟩]
def M3E (hH:H=hV) (A:List Lf) (n c:Nat) (ty:TypeId) (B:List Lf) (m d:Nat) (ty2:TypeId):List (Option SV):=aA 33 0 [(0,.o (.a (.sld 0 0 0 n c))),(1,.o (.a (.sld 1 0 0 m d))),(5,.o (.a (.v (.slice none 0 0)))),(6,.o (.a (int1 .i64 1)))]
theorem i3E (hH:H=hV) (A:List Lf) (n c:Nat) (ty:TypeId) (B:List Lf) (m d:Nat) (ty2:TypeId):ay (m3E H hH A n c ty B m d ty2 ).length (M3E H hH A n c ty B m d ty2 ) (m3E H hH A n c ty B m d ty2 )=true:=by kernel_rfl
def m4E (hH:H=hV) (A:List Lf) (n c:Nat) (ty:TypeId) (B:List Lf) (m d:Nat) (ty2:TypeId) (us:List Value):List Blk:=[⟨false,ty,.prv (lvals A)⟩,⟨false,ty2,.prv (lvals B)⟩,⟨true,30,.grv 64 us n none⟩]
def M4E (hH:H=hV) (A:List Lf) (n c:Nat) (ty:TypeId) (B:List Lf) (m d:Nat) (ty2:TypeId):List (Option SV):=aA 33 0 [(1,.o (.a (.sld 1 0 0 m d))),(5,.o (.a (.v (.slice none 0 0)))),(6,.o (.a (int1 .i64 1))),(19,.o (.a (.slg 2 n)))]
theorem i4E (hH:H=hV) (A:List Lf) (n c:Nat) (ty:TypeId) (B:List Lf) (m d:Nat) (ty2:TypeId) (us:List Value):ay (m4E H hH A n c ty B m d ty2 us ).length (M4E H hH A n c ty B m d ty2 ) (m4E H hH A n c ty B m d ty2 us )=true:=by kernel_rfl
def m5E (hH:H=hV) (A:List Lf) (n c:Nat) (ty:TypeId) (B:List Lf) (m d:Nat) (ty2:TypeId):List Blk:=[⟨false,ty,.prv (lvals A)⟩,⟨false,ty2,.prv (lvals B)⟩]
def M5E (hH:H=hV) (A:List Lf) (n c:Nat) (ty:TypeId) (B:List Lf) (m d:Nat) (ty2:TypeId):List (Option SV):=aA 33 0 [(5,.o (.a (.v (.slice none 0 0)))),(6,.o (.a (int1 .i64 1))),(7,.o (.a (.v (.slice none 0 0)))),(8,.o (.a (int1 .i64 1)))]
theorem i5E (hH:H=hV) (A:List Lf) (n c:Nat) (ty:TypeId) (B:List Lf) (m d:Nat) (ty2:TypeId):ay (m5E H hH A n c ty B m d ty2 ).length (M5E H hH A n c ty B m d ty2 ) (m5E H hH A n c ty B m d ty2 )=true:=by kernel_rfl
theorem aE (hH:H=hV) (A:List Lf) (n c:Nat) (ty:TypeId) (B:List Lf) (m d:Nat) (ty2:TypeId):outN [0,1] (M3E H hH A n c ty B m d ty2 ) (exec (Γ3E H hH) tys 100 (cpre 3 body) ⟨aH fn [.o (.a (.sld 0 0 0 n c)),.o (.a (.sld 1 0 0 m d))],m0 H hH A n c ty B m d ty2 ,[]⟩)=some (.normal,(live (M3E H hH A n c ty B m d ty2 )).map (SV.ren (piF [0,1])),(M3E H hH A n c ty B m d ty2 ).length,(m3E H hH A n c ty B m d ty2 ).map (fun b=>some (b.ren (piF [0,1]))),[0+0+n*64≤(lvals A).length,n≤c,0+0+m*64≤(lvals B).length,m≤d,((lvals A).drop (0+0)).take (n*64)=lvals (ak (((lvals A).drop (0+0)).take (n*64))),(ak (((lvals A).drop (0+0)).take (n*64))).length=n,AllL (ak (((lvals A).drop (0+0)).take (n*64))),((lvals B).drop (0+0)).take (m*64)=lvals (ak (((lvals B).drop (0+0)).take (m*64))),(ak (((lvals B).drop (0+0)).take (m*64))).length=m,AllL (ak (((lvals B).drop (0+0)).take (m*64))),n+m≤4000000,rndD ((ak (((lvals A).drop (0+0)).take (n*64)))++(ak (((lvals B).drop (0+0)).take (m*64)))) ((ak (((lvals A).drop (0+0)).take (n*64)))++(ak (((lvals B).drop (0+0)).take (m*64)))).length=true]):=by kernel_rfl
theorem bE (hH:H=hV) (A:List Lf) (n c:Nat) (ty:TypeId) (B:List Lf) (m d:Nat) (ty2:TypeId) (g:Nat→SV):bf [0,1,2] (M4E H hH A n c ty B m d ty2 ) (aR ΓaP tys (opsOf R4).toList (((opsOf R4).toList.drop 0).take 2) ⟨fill g 0 (M3E H hH A n c ty B m d ty2 ),m3E H hH A n c ty B m d ty2 ,[]⟩)=some ((live (M4E H hH A n c ty B m d ty2 )).map (SV.ren (piF [0,1,2])),(M4E H hH A n c ty B m d ty2 ).length,(m4E H hH A n c ty B m d ty2 (((lvals A).drop (0+0)).take (n*64)) ).map (fun b=>some (b.ren (piF [0,1,2]))),[0+0+n*64≤(lvals A).length,n≤c,64=64,0<n,Room Tryd.prog 30 n]):=by kernel_rfl
theorem cE (hH:H=hV) (A:List Lf) (n c:Nat) (ty:TypeId) (B:List Lf) (m d:Nat) (ty2:TypeId) (us:List Value) (g:Nat→SV):bf [0,1] (M5E H hH A n c ty B m d ty2 ) (aR (ΓbPE H hH) tys (opsOf R4).toList (((opsOf R4).toList.drop 2).take 8) ⟨fill g 0 (M4E H hH A n c ty B m d ty2 ),m4E H hH A n c ty B m d ty2 us ,[]⟩)=some ((live (M5E H hH A n c ty B m d ty2 )).map (SV.ren (piF [0,1])),(M5E H hH A n c ty B m d ty2 ).length,(m5E H hH A n c ty B m d ty2 ).map (fun b=>some (b.ren (piF [0,1]))),[0+0+m*64≤(lvals B).length,m≤d,64=64,0<m,Room Tryd.prog 30 m,0+0+n*64≤us.length,n≤n,0+0+m*64≤(((lvals B).drop (0+0)).take (m*64)).length,m≤m,(us.drop (0+0)).take (n*64)=lvals (ak ((us.drop (0+0)).take (n*64))),(ak ((us.drop (0+0)).take (n*64))).length=n,((((lvals B).drop (0+0)).take (m*64)).drop (0+0)).take (m*64)=lvals (ak (((((lvals B).drop (0+0)).take (m*64)).drop (0+0)).take (m*64))),(ak (((((lvals B).drop (0+0)).take (m*64)).drop (0+0)).take (m*64))).length=m,n+m≤4000000,AllL (ak ((us.drop (0+0)).take (n*64))),AllL (ak (((((lvals B).drop (0+0)).take (m*64)).drop (0+0)).take (m*64))),aK (tndV (ak ((us.drop (0+0)).take (n*64))++ak (((((lvals B).drop (0+0)).take (m*64)).drop (0+0)).take (m*64))))=false]):=by kernel_rfl
theorem dE (hH:H=hV) (A:List Lf) (n c:Nat) (ty:TypeId) (B:List Lf) (m d:Nat) (ty2:TypeId) (g:Nat→SV):outN [0,1] (MR) (exec Γ5 tys 100 D ⟨fill g 0 (M5E H hH A n c ty B m d ty2 ),m5E H hH A n c ty B m d ty2 ,[]⟩)=some (.ret,(live (MR)).map (SV.ren (piF [0,1])),(MR).length,(m0 H hH A n c ty B m d ty2 ).map (fun b=>some (b.ren (piF [0,1]))),[]):=by kernel_rfl
def m3P (hH:H=hV) (A:List Lf) (n c:Nat) (ty:TypeId) (B:List Lf) (m d:Nat) (ty2:TypeId) (R:List Nd):List Blk:=[⟨false,ty,.prv (lvals A)⟩,⟨false,ty2,.prv (lvals B)⟩,⟨true,33,.grv 65 (ah R) R.length none⟩]
def M3P (hH:H=hV) (A:List Lf) (n c:Nat) (ty:TypeId) (B:List Lf) (m d:Nat) (ty2:TypeId) (R:List Nd):List (Option SV):=aA 33 0 [(0,.o (.a (.sld 0 0 0 n c))),(1,.o (.a (.sld 1 0 0 m d))),(5,.o (.a (.slg 2 R.length))),(6,.o (.a (int1 .i64 0)))]
theorem i3P (hH:H=hV) (A:List Lf) (n c:Nat) (ty:TypeId) (B:List Lf) (m d:Nat) (ty2:TypeId) (R:List Nd):ay (m3P H hH A n c ty B m d ty2 R ).length (M3P H hH A n c ty B m d ty2 R ) (m3P H hH A n c ty B m d ty2 R )=true:=by kernel_rfl
def m4P (hH:H=hV) (A:List Lf) (n c:Nat) (ty:TypeId) (B:List Lf) (m d:Nat) (ty2:TypeId) (R:List Nd) (us:List Value):List Blk:=[⟨false,ty,.prv (lvals A)⟩,⟨false,ty2,.prv (lvals B)⟩,⟨true,33,.grv 65 (ah R) R.length none⟩,⟨true,30,.grv 64 us n none⟩]
def M4P (hH:H=hV) (A:List Lf) (n c:Nat) (ty:TypeId) (B:List Lf) (m d:Nat) (ty2:TypeId) (R:List Nd):List (Option SV):=aA 33 0 [(1,.o (.a (.sld 1 0 0 m d))),(5,.o (.a (.slg 2 R.length))),(6,.o (.a (int1 .i64 0))),(19,.o (.a (.slg 3 n)))]
theorem i4P (hH:H=hV) (A:List Lf) (n c:Nat) (ty:TypeId) (B:List Lf) (m d:Nat) (ty2:TypeId) (R:List Nd) (us:List Value):ay (m4P H hH A n c ty B m d ty2 R us ).length (M4P H hH A n c ty B m d ty2 R ) (m4P H hH A n c ty B m d ty2 R us )=true:=by kernel_rfl
def m5P (hH:H=hV) (A:List Lf) (n c:Nat) (ty:TypeId) (B:List Lf) (m d:Nat) (ty2:TypeId) (R:List Nd) (T:List Nd):List Blk:=[⟨false,ty,.prv (lvals A)⟩,⟨false,ty2,.prv (lvals B)⟩,⟨true,33,.grv 65 (ah R) R.length none⟩,⟨true,33,.grv 65 (ah T) T.length none⟩]
def M5P (hH:H=hV) (A:List Lf) (n c:Nat) (ty:TypeId) (B:List Lf) (m d:Nat) (ty2:TypeId) (R:List Nd) (T:List Nd):List (Option SV):=aA 33 0 [(5,.o (.a (.slg 2 R.length))),(6,.o (.a (int1 .i64 0))),(7,.o (.a (.slg 3 T.length))),(8,.o (.a (int1 .i64 0)))]
theorem i5P (hH:H=hV) (A:List Lf) (n c:Nat) (ty:TypeId) (B:List Lf) (m d:Nat) (ty2:TypeId) (R:List Nd) (T:List Nd):ay (m5P H hH A n c ty B m d ty2 R T ).length (M5P H hH A n c ty B m d ty2 R T ) (m5P H hH A n c ty B m d ty2 R T )=true:=by kernel_rfl
theorem aP (hH:H=hV) (A:List Lf) (n c:Nat) (ty:TypeId) (B:List Lf) (m d:Nat) (ty2:TypeId):outN [0,1,2] (M3P H hH A n c ty B m d ty2 (stR H (ak (((lvals A).drop (0+0)).take (n*64))) (ak (((lvals B).drop (0+0)).take (m*64)))) ) (exec (Γ3P H hH) tys 100 (cpre 3 body) ⟨aH fn [.o (.a (.sld 0 0 0 n c)),.o (.a (.sld 1 0 0 m d))],m0 H hH A n c ty B m d ty2 ,[]⟩)=some (.normal,(live (M3P H hH A n c ty B m d ty2 (stR H (ak (((lvals A).drop (0+0)).take (n*64))) (ak (((lvals B).drop (0+0)).take (m*64)))) )).map (SV.ren (piF [0,1,2])),(M3P H hH A n c ty B m d ty2 (stR H (ak (((lvals A).drop (0+0)).take (n*64))) (ak (((lvals B).drop (0+0)).take (m*64)))) ).length,(m3P H hH A n c ty B m d ty2 (stR H (ak (((lvals A).drop (0+0)).take (n*64))) (ak (((lvals B).drop (0+0)).take (m*64)))) ).map (fun b=>some (b.ren (piF [0,1,2]))),[0+0+n*64≤(lvals A).length,n≤c,0+0+m*64≤(lvals B).length,m≤d,((lvals A).drop (0+0)).take (n*64)=lvals (ak (((lvals A).drop (0+0)).take (n*64))),(ak (((lvals A).drop (0+0)).take (n*64))).length=n,AllL (ak (((lvals A).drop (0+0)).take (n*64))),((lvals B).drop (0+0)).take (m*64)=lvals (ak (((lvals B).drop (0+0)).take (m*64))),(ak (((lvals B).drop (0+0)).take (m*64))).length=m,AllL (ak (((lvals B).drop (0+0)).take (m*64))),n+m≤4000000,rndD ((ak (((lvals A).drop (0+0)).take (n*64)))++(ak (((lvals B).drop (0+0)).take (m*64)))) ((ak (((lvals A).drop (0+0)).take (n*64)))++(ak (((lvals B).drop (0+0)).take (m*64)))).length=false,0<n]):=by kernel_rfl
theorem bP (hH:H=hV) (A:List Lf) (n c:Nat) (ty:TypeId) (B:List Lf) (m d:Nat) (ty2:TypeId) (R:List Nd) (g:Nat→SV):bf [0,1,2,3] (M4P H hH A n c ty B m d ty2 R ) (aR ΓaP tys (opsOf R4).toList (((opsOf R4).toList.drop 0).take 2) ⟨fill g 0 (M3P H hH A n c ty B m d ty2 R ),m3P H hH A n c ty B m d ty2 R ,[]⟩)=some ((live (M4P H hH A n c ty B m d ty2 R )).map (SV.ren (piF [0,1,2,3])),(M4P H hH A n c ty B m d ty2 R ).length,(m4P H hH A n c ty B m d ty2 R (((lvals A).drop (0+0)).take (n*64)) ).map (fun b=>some (b.ren (piF [0,1,2,3]))),[0+0+n*64≤(lvals A).length,n≤c,64=64,0<n,Room Tryd.prog 30 n]):=by kernel_rfl
theorem cP (hH:H=hV) (A:List Lf) (n c:Nat) (ty:TypeId) (B:List Lf) (m d:Nat) (ty2:TypeId) (R:List Nd) (us:List Value) (g:Nat→SV):bf [0,1,2,5] (M5P H hH A n c ty B m d ty2 R (stT H (ak ((us.drop (0+0)).take (n*64))) (ak (((((lvals B).drop (0+0)).take (m*64)).drop (0+0)).take (m*64)))) ) (aR (ΓbPP H hH) tys (opsOf R4).toList (((opsOf R4).toList.drop 2).take 8) ⟨fill g 0 (M4P H hH A n c ty B m d ty2 R ),m4P H hH A n c ty B m d ty2 R us ,[]⟩)=some ((live (M5P H hH A n c ty B m d ty2 R (stT H (ak ((us.drop (0+0)).take (n*64))) (ak (((((lvals B).drop (0+0)).take (m*64)).drop (0+0)).take (m*64)))) )).map (SV.ren (piF [0,1,2,5])),(M5P H hH A n c ty B m d ty2 R (stT H (ak ((us.drop (0+0)).take (n*64))) (ak (((((lvals B).drop (0+0)).take (m*64)).drop (0+0)).take (m*64)))) ).length,(m5P H hH A n c ty B m d ty2 R (stT H (ak ((us.drop (0+0)).take (n*64))) (ak (((((lvals B).drop (0+0)).take (m*64)).drop (0+0)).take (m*64)))) ).map (fun b=>some (b.ren (piF [0,1,2,5]))),[0+0+m*64≤(lvals B).length,m≤d,64=64,0<m,Room Tryd.prog 30 m,0+0+n*64≤us.length,n≤n,0+0+m*64≤(((lvals B).drop (0+0)).take (m*64)).length,m≤m,(us.drop (0+0)).take (n*64)=lvals (ak ((us.drop (0+0)).take (n*64))),(ak ((us.drop (0+0)).take (n*64))).length=n,((((lvals B).drop (0+0)).take (m*64)).drop (0+0)).take (m*64)=lvals (ak (((((lvals B).drop (0+0)).take (m*64)).drop (0+0)).take (m*64))),(ak (((((lvals B).drop (0+0)).take (m*64)).drop (0+0)).take (m*64))).length=m,n+m≤4000000,AllL (ak ((us.drop (0+0)).take (n*64))),AllL (ak (((((lvals B).drop (0+0)).take (m*64)).drop (0+0)).take (m*64))),aK (tndV (ak ((us.drop (0+0)).take (n*64))++ak (((((lvals B).drop (0+0)).take (m*64)).drop (0+0)).take (m*64))))=true,(stT H (ak ((us.drop (0+0)).take (n*64))) (ak (((((lvals B).drop (0+0)).take (m*64)).drop (0+0)).take (m*64))))≠[]]):=by kernel_rfl
theorem dP (hH:H=hV) (A:List Lf) (n c:Nat) (ty:TypeId) (B:List Lf) (m d:Nat) (ty2:TypeId) (R:List Nd) (T:List Nd) (g:Nat→SV):outN [0,1] (MR) (exec Γ5 tys 100 D ⟨fill g 0 (M5P H hH A n c ty B m d ty2 R T ),m5P H hH A n c ty B m d ty2 R T ,[]⟩)=some (.ret,(live (MR)).map (SV.ren (piF [0,1])),(MR).length,(m0 H hH A n c ty B m d ty2 ).map (fun b=>some (b.ren (piF [0,1]))),[0+0+T.length*65≤(ah T).length,T.length≤T.length,0+0+R.length*65≤(ah R).length,R.length≤R.length,((ah T).drop (0+0)).take (T.length*65)=((ah R).drop (0+0)).take (R.length*65),T.length=R.length,((ah T).drop (0+0)).take (T.length*65)=ah (au (((ah T).drop (0+0)).take (T.length*65))),(au (((ah T).drop (0+0)).take (T.length*65))).length=T.length,T.length≤8000000]):=by kernel_rfl
theorem run (hH:H=hV) (A:List Lf) (n c:Nat) (ty:TypeId) (B:List Lf) (m d:Nat) (ty2:TypeId) (hn:A.length=n) (hc:n≤c) (hA:AllL A) (hm:B.length=m) (hd:m≤d) (hB:AllL B) (hb:n+m≤4000000) (h0:0<n) (h1:0<m):aC Tryd.prog GT 2 body (aH fn [.o (.a (.sld 0 0 0 n c)),.o (.a (.sld 1 0 0 m d))]) [⟨false,ty,.prv (lvals A)⟩,⟨false,ty2,.prv (lvals B)⟩] (aF tys fn (aW (aL.enc true) .none)):=by
 have dA:((lvals A).drop (0+0)).take (n*64)=lvals A:=dtl hn
 have la:(lvals A).length=n*64:=by rw[←hn];exact bH A
 have dB:((lvals B).drop (0+0)).take (m*64)=lvals B:=dtl hm
 have lb:(lvals B).length=m*64:=by rw[←hm];exact bH B
 have hE0:ak ((([]:List Value).drop (0+0)).take (0*64))=[]:=lope.lfDec0
 have hX:AllL (A++B):=AllL.app hA hB
 have hap:=ap_of hX
 cases hq:rndD (A++B) (A++B).length with
 | true=>
  have q:=aE H hH A n c ty B m d ty2
  rw[dA,aM,dB,aM] at q
  refine Runs.of_outNP aj mixed 3 [0,1] q ⟨by omega,hc,by omega,hd,rfl,hn,hA,rfl,hm,hB,by omega,hq,trivial⟩ (i3E H hH A n c ty B m d ty2 ) (by kernel_rfl) fun g=> ?_
  rw[suf_3]
  refine Runs.seq (Runs.region ?_)
  have q:=bE H hH A n c ty B m d ty2 g
  rw[dA] at q
  refine aI.aG aj 2 [0,1,2] q ⟨by omega,hc,rfl,h0,roomLf n (by omega),trivial⟩ (i4E H hH A n c ty B m d ty2 _) rfl fun g=> ?_
  have q:=cE H hH A n c ty B m d ty2 (lvals A) g
  rw[dA,aM,dB,dB,aM] at q
  refine aI.aG aj 8 [0,1] q ⟨by omega,hd,rfl,h1,roomLf m (by omega),by omega,Nat.le_refl _,by omega,Nat.le_refl _,rfl,hn,rfl,hm,by omega,hA,hB,by rw[hap,hq];rfl,trivial⟩ (i5E H hH A n c ty B m d ty2 ) rfl fun g=> ?_
  rw[nil4]
  refine aI.nil ?_
  show aC _ _ _ _ _ _ _
  exact Runs.aG aj mixed [0,1] (dE H hH A n c ty B m d ty2 g) trivial (iR H hH A n c ty B m d ty2) rfl fun g=>aF.ret (zr g _) rfl
 | false=>
  have heq:stT H A B=stR H A B:=by rw[hH];exact st_eq hA hB hq
  have hneT:stT H A B≠[]:=by rw[heq];exact st_ne (fun a b=>by rw[hH];exact hV_ok a b) hA hB (by omega) hq
  have hle:(stR H A B).length≤A.length:=by rw[hH];exact st_len hA hB hq
  have q:=aP H hH A n c ty B m d ty2
  rw[dA,aM,dB,aM] at q
  refine Runs.of_outNP aj mixed 3 [0,1,2] q ⟨by omega,hc,by omega,hd,rfl,hn,hA,rfl,hm,hB,by omega,hq,h0,trivial⟩ (i3P H hH A n c ty B m d ty2 _) (by kernel_rfl) fun g=> ?_
  rw[suf_3]
  refine Runs.seq (Runs.region ?_)
  have q:=bP H hH A n c ty B m d ty2 (stR H A B) g
  rw[dA] at q
  refine aI.aG aj 2 [0,1,2,3] q ⟨by omega,hc,rfl,h0,roomLf n (by omega),trivial⟩ (i4P H hH A n c ty B m d ty2 _ _) rfl fun g=> ?_
  have q:=cP H hH A n c ty B m d ty2 (stR H A B) (lvals A) g
  rw[dA,aM,dB,dB,aM] at q
  refine aI.aG aj 8 [0,1,2,5] q ⟨by omega,hd,rfl,h1,roomLf m (by omega),by omega,Nat.le_refl _,by omega,Nat.le_refl _,rfl,hn,rfl,hm,by omega,hA,hB,by rw[hap,hq];rfl,hneT,trivial⟩ (i5P H hH A n c ty B m d ty2 _ _) rfl fun g=> ?_
  rw[nil4]
  refine aI.nil ?_
  show aC _ _ _ _ _ _ _
  have hl:=aV (stT H A B)
  rw[heq]
  have ds:((ah (stR H A B)).drop (0+0)).take ((stR H A B).length*65)=ah (stR H A B):=dtn rfl
  have q:=dP H hH A n c ty B m d ty2 (stR H A B) (stR H A B) g
  rw[ds,aS] at q
  exact Runs.aG aj mixed [0,1] q ⟨by rw[aV];omega,Nat.le_refl _,by rw[aV];omega,Nat.le_refl _,rfl,rfl,rfl,rfl,by omega,trivial⟩ (iR H hH A n c ty B m d ty2) rfl fun g=>aF.ret (zr g _) rfl
end
end pp
namespace pz
section
variable (H:Nd→Nd→B32)
def m0 (hH:H=hV) (A:List Lf) (n c:Nat) (ty:TypeId) (B:List Lf) (m d:Nat) (ty2:TypeId):List Blk:=[⟨false,ty,.prv (lvals A)⟩,⟨false,ty2,.prv (lvals B)⟩]
theorem iR (hH:H=hV) (A:List Lf) (n c:Nat) (ty:TypeId) (B:List Lf) (m d:Nat) (ty2:TypeId):ay (m0 H hH A n c ty B m d ty2 ).length (MR) (m0 H hH A n c ty B m d ty2 )=true:=by kernel_rfl
def m3E (hH:H=hV) (A:List Lf) (n c:Nat) (ty:TypeId) (B:List Lf) (m d:Nat) (ty2:TypeId):List Blk:=[⟨false,ty,.prv (lvals A)⟩,⟨false,ty2,.prv (lvals B)⟩]
def M3E (hH:H=hV) (A:List Lf) (n c:Nat) (ty:TypeId) (B:List Lf) (m d:Nat) (ty2:TypeId):List (Option SV):=aA 33 0 [(0,.o (.a (.sld 0 0 0 n c))),(1,.o (.a (.sld 1 0 0 m d))),(5,.o (.a (.v (.slice none 0 0)))),(6,.o (.a (int1 .i64 1)))]
theorem i3E (hH:H=hV) (A:List Lf) (n c:Nat) (ty:TypeId) (B:List Lf) (m d:Nat) (ty2:TypeId):ay (m3E H hH A n c ty B m d ty2 ).length (M3E H hH A n c ty B m d ty2 ) (m3E H hH A n c ty B m d ty2 )=true:=by kernel_rfl
def m4E (hH:H=hV) (A:List Lf) (n c:Nat) (ty:TypeId) (B:List Lf) (m d:Nat) (ty2:TypeId) (us:List Value):List Blk:=[⟨false,ty,.prv (lvals A)⟩,⟨false,ty2,.prv (lvals B)⟩,⟨true,30,.grv 64 us n none⟩]
def M4E (hH:H=hV) (A:List Lf) (n c:Nat) (ty:TypeId) (B:List Lf) (m d:Nat) (ty2:TypeId):List (Option SV):=aA 33 0 [(1,.o (.a (.sld 1 0 0 m d))),(5,.o (.a (.v (.slice none 0 0)))),(6,.o (.a (int1 .i64 1))),(19,.o (.a (.slg 2 n)))]
theorem i4E (hH:H=hV) (A:List Lf) (n c:Nat) (ty:TypeId) (B:List Lf) (m d:Nat) (ty2:TypeId) (us:List Value):ay (m4E H hH A n c ty B m d ty2 us ).length (M4E H hH A n c ty B m d ty2 ) (m4E H hH A n c ty B m d ty2 us )=true:=by kernel_rfl
def m5E (hH:H=hV) (A:List Lf) (n c:Nat) (ty:TypeId) (B:List Lf) (m d:Nat) (ty2:TypeId):List Blk:=[⟨false,ty,.prv (lvals A)⟩,⟨false,ty2,.prv (lvals B)⟩]
def M5E (hH:H=hV) (A:List Lf) (n c:Nat) (ty:TypeId) (B:List Lf) (m d:Nat) (ty2:TypeId):List (Option SV):=aA 33 0 [(5,.o (.a (.v (.slice none 0 0)))),(6,.o (.a (int1 .i64 1))),(7,.o (.a (.v (.slice none 0 0)))),(8,.o (.a (int1 .i64 1)))]
theorem i5E (hH:H=hV) (A:List Lf) (n c:Nat) (ty:TypeId) (B:List Lf) (m d:Nat) (ty2:TypeId):ay (m5E H hH A n c ty B m d ty2 ).length (M5E H hH A n c ty B m d ty2 ) (m5E H hH A n c ty B m d ty2 )=true:=by kernel_rfl
theorem aE (hH:H=hV) (A:List Lf) (n c:Nat) (ty:TypeId) (B:List Lf) (m d:Nat) (ty2:TypeId):outN [0,1] (M3E H hH A n c ty B m d ty2 ) (exec (Γ3E H hH) tys 100 (cpre 3 body) ⟨aH fn [.o (.a (.sld 0 0 0 n c)),.o (.a (.sld 1 0 0 m d))],m0 H hH A n c ty B m d ty2 ,[]⟩)=some (.normal,(live (M3E H hH A n c ty B m d ty2 )).map (SV.ren (piF [0,1])),(M3E H hH A n c ty B m d ty2 ).length,(m3E H hH A n c ty B m d ty2 ).map (fun b=>some (b.ren (piF [0,1]))),[0+0+n*64≤(lvals A).length,n≤c,0+0+m*64≤(lvals B).length,m≤d,((lvals A).drop (0+0)).take (n*64)=lvals (ak (((lvals A).drop (0+0)).take (n*64))),(ak (((lvals A).drop (0+0)).take (n*64))).length=n,AllL (ak (((lvals A).drop (0+0)).take (n*64))),((lvals B).drop (0+0)).take (m*64)=lvals (ak (((lvals B).drop (0+0)).take (m*64))),(ak (((lvals B).drop (0+0)).take (m*64))).length=m,AllL (ak (((lvals B).drop (0+0)).take (m*64))),n+m≤4000000,rndD ((ak (((lvals A).drop (0+0)).take (n*64)))++(ak (((lvals B).drop (0+0)).take (m*64)))) ((ak (((lvals A).drop (0+0)).take (n*64)))++(ak (((lvals B).drop (0+0)).take (m*64)))).length=true]):=by kernel_rfl
theorem bE (hH:H=hV) (A:List Lf) (n c:Nat) (ty:TypeId) (B:List Lf) (m d:Nat) (ty2:TypeId) (g:Nat→SV):bf [0,1,2] (M4E H hH A n c ty B m d ty2 ) (aR ΓaP tys (opsOf R4).toList (((opsOf R4).toList.drop 0).take 2) ⟨fill g 0 (M3E H hH A n c ty B m d ty2 ),m3E H hH A n c ty B m d ty2 ,[]⟩)=some ((live (M4E H hH A n c ty B m d ty2 )).map (SV.ren (piF [0,1,2])),(M4E H hH A n c ty B m d ty2 ).length,(m4E H hH A n c ty B m d ty2 (((lvals A).drop (0+0)).take (n*64)) ).map (fun b=>some (b.ren (piF [0,1,2]))),[0+0+n*64≤(lvals A).length,n≤c,64=64,0<n,Room Tryd.prog 30 n]):=by kernel_rfl
theorem cE (hH:H=hV) (A:List Lf) (n c:Nat) (ty:TypeId) (B:List Lf) (m d:Nat) (ty2:TypeId) (us:List Value) (g:Nat→SV):bf [0,1] (M5E H hH A n c ty B m d ty2 ) (aR (ΓbZE H hH) tys (opsOf R4).toList (((opsOf R4).toList.drop 2).take 8) ⟨fill g 0 (M4E H hH A n c ty B m d ty2 ),m4E H hH A n c ty B m d ty2 us ,[]⟩)=some ((live (M5E H hH A n c ty B m d ty2 )).map (SV.ren (piF [0,1])),(M5E H hH A n c ty B m d ty2 ).length,(m5E H hH A n c ty B m d ty2 ).map (fun b=>some (b.ren (piF [0,1]))),[0+0+m*64≤(lvals B).length,m≤d,64=64,m=0,0+0+n*64≤us.length,n≤n,0+0+0*64≤0,0≤0,(us.drop (0+0)).take (n*64)=lvals (ak ((us.drop (0+0)).take (n*64))),(ak ((us.drop (0+0)).take (n*64))).length=n,(([]:List Value).drop (0+0)).take (0*64)=lvals (ak ((([]:List Value).drop (0+0)).take (0*64))),(ak ((([]:List Value).drop (0+0)).take (0*64))).length=0,n+0≤4000000,AllL (ak ((us.drop (0+0)).take (n*64))),AllL (ak ((([]:List Value).drop (0+0)).take (0*64))),aK (tndV (ak ((us.drop (0+0)).take (n*64))++ak ((([]:List Value).drop (0+0)).take (0*64))))=false]):=by kernel_rfl
theorem dE (hH:H=hV) (A:List Lf) (n c:Nat) (ty:TypeId) (B:List Lf) (m d:Nat) (ty2:TypeId) (g:Nat→SV):outN [0,1] (MR) (exec Γ5 tys 100 D ⟨fill g 0 (M5E H hH A n c ty B m d ty2 ),m5E H hH A n c ty B m d ty2 ,[]⟩)=some (.ret,(live (MR)).map (SV.ren (piF [0,1])),(MR).length,(m0 H hH A n c ty B m d ty2 ).map (fun b=>some (b.ren (piF [0,1]))),[]):=by kernel_rfl
def m3P (hH:H=hV) (A:List Lf) (n c:Nat) (ty:TypeId) (B:List Lf) (m d:Nat) (ty2:TypeId) (R:List Nd):List Blk:=[⟨false,ty,.prv (lvals A)⟩,⟨false,ty2,.prv (lvals B)⟩,⟨true,33,.grv 65 (ah R) R.length none⟩]
def M3P (hH:H=hV) (A:List Lf) (n c:Nat) (ty:TypeId) (B:List Lf) (m d:Nat) (ty2:TypeId) (R:List Nd):List (Option SV):=aA 33 0 [(0,.o (.a (.sld 0 0 0 n c))),(1,.o (.a (.sld 1 0 0 m d))),(5,.o (.a (.slg 2 R.length))),(6,.o (.a (int1 .i64 0)))]
theorem i3P (hH:H=hV) (A:List Lf) (n c:Nat) (ty:TypeId) (B:List Lf) (m d:Nat) (ty2:TypeId) (R:List Nd):ay (m3P H hH A n c ty B m d ty2 R ).length (M3P H hH A n c ty B m d ty2 R ) (m3P H hH A n c ty B m d ty2 R )=true:=by kernel_rfl
def m4P (hH:H=hV) (A:List Lf) (n c:Nat) (ty:TypeId) (B:List Lf) (m d:Nat) (ty2:TypeId) (R:List Nd) (us:List Value):List Blk:=[⟨false,ty,.prv (lvals A)⟩,⟨false,ty2,.prv (lvals B)⟩,⟨true,33,.grv 65 (ah R) R.length none⟩,⟨true,30,.grv 64 us n none⟩]
def M4P (hH:H=hV) (A:List Lf) (n c:Nat) (ty:TypeId) (B:List Lf) (m d:Nat) (ty2:TypeId) (R:List Nd):List (Option SV):=aA 33 0 [(1,.o (.a (.sld 1 0 0 m d))),(5,.o (.a (.slg 2 R.length))),(6,.o (.a (int1 .i64 0))),(19,.o (.a (.slg 3 n)))]
theorem i4P (hH:H=hV) (A:List Lf) (n c:Nat) (ty:TypeId) (B:List Lf) (m d:Nat) (ty2:TypeId) (R:List Nd) (us:List Value):ay (m4P H hH A n c ty B m d ty2 R us ).length (M4P H hH A n c ty B m d ty2 R ) (m4P H hH A n c ty B m d ty2 R us )=true:=by kernel_rfl
def m5P (hH:H=hV) (A:List Lf) (n c:Nat) (ty:TypeId) (B:List Lf) (m d:Nat) (ty2:TypeId) (R:List Nd) (T:List Nd):List Blk:=[⟨false,ty,.prv (lvals A)⟩,⟨false,ty2,.prv (lvals B)⟩,⟨true,33,.grv 65 (ah R) R.length none⟩,⟨true,33,.grv 65 (ah T) T.length none⟩]
def M5P (hH:H=hV) (A:List Lf) (n c:Nat) (ty:TypeId) (B:List Lf) (m d:Nat) (ty2:TypeId) (R:List Nd) (T:List Nd):List (Option SV):=aA 33 0 [(5,.o (.a (.slg 2 R.length))),(6,.o (.a (int1 .i64 0))),(7,.o (.a (.slg 3 T.length))),(8,.o (.a (int1 .i64 0)))]
theorem i5P (hH:H=hV) (A:List Lf) (n c:Nat) (ty:TypeId) (B:List Lf) (m d:Nat) (ty2:TypeId) (R:List Nd) (T:List Nd):ay (m5P H hH A n c ty B m d ty2 R T ).length (M5P H hH A n c ty B m d ty2 R T ) (m5P H hH A n c ty B m d ty2 R T )=true:=by kernel_rfl
theorem aP (hH:H=hV) (A:List Lf) (n c:Nat) (ty:TypeId) (B:List Lf) (m d:Nat) (ty2:TypeId):outN [0,1,2] (M3P H hH A n c ty B m d ty2 (stR H (ak (((lvals A).drop (0+0)).take (n*64))) (ak (((lvals B).drop (0+0)).take (m*64)))) ) (exec (Γ3P H hH) tys 100 (cpre 3 body) ⟨aH fn [.o (.a (.sld 0 0 0 n c)),.o (.a (.sld 1 0 0 m d))],m0 H hH A n c ty B m d ty2 ,[]⟩)=some (.normal,(live (M3P H hH A n c ty B m d ty2 (stR H (ak (((lvals A).drop (0+0)).take (n*64))) (ak (((lvals B).drop (0+0)).take (m*64)))) )).map (SV.ren (piF [0,1,2])),(M3P H hH A n c ty B m d ty2 (stR H (ak (((lvals A).drop (0+0)).take (n*64))) (ak (((lvals B).drop (0+0)).take (m*64)))) ).length,(m3P H hH A n c ty B m d ty2 (stR H (ak (((lvals A).drop (0+0)).take (n*64))) (ak (((lvals B).drop (0+0)).take (m*64)))) ).map (fun b=>some (b.ren (piF [0,1,2]))),[0+0+n*64≤(lvals A).length,n≤c,0+0+m*64≤(lvals B).length,m≤d,((lvals A).drop (0+0)).take (n*64)=lvals (ak (((lvals A).drop (0+0)).take (n*64))),(ak (((lvals A).drop (0+0)).take (n*64))).length=n,AllL (ak (((lvals A).drop (0+0)).take (n*64))),((lvals B).drop (0+0)).take (m*64)=lvals (ak (((lvals B).drop (0+0)).take (m*64))),(ak (((lvals B).drop (0+0)).take (m*64))).length=m,AllL (ak (((lvals B).drop (0+0)).take (m*64))),n+m≤4000000,rndD ((ak (((lvals A).drop (0+0)).take (n*64)))++(ak (((lvals B).drop (0+0)).take (m*64)))) ((ak (((lvals A).drop (0+0)).take (n*64)))++(ak (((lvals B).drop (0+0)).take (m*64)))).length=false,0<n]):=by kernel_rfl
theorem bP (hH:H=hV) (A:List Lf) (n c:Nat) (ty:TypeId) (B:List Lf) (m d:Nat) (ty2:TypeId) (R:List Nd) (g:Nat→SV):bf [0,1,2,3] (M4P H hH A n c ty B m d ty2 R ) (aR ΓaP tys (opsOf R4).toList (((opsOf R4).toList.drop 0).take 2) ⟨fill g 0 (M3P H hH A n c ty B m d ty2 R ),m3P H hH A n c ty B m d ty2 R ,[]⟩)=some ((live (M4P H hH A n c ty B m d ty2 R )).map (SV.ren (piF [0,1,2,3])),(M4P H hH A n c ty B m d ty2 R ).length,(m4P H hH A n c ty B m d ty2 R (((lvals A).drop (0+0)).take (n*64)) ).map (fun b=>some (b.ren (piF [0,1,2,3]))),[0+0+n*64≤(lvals A).length,n≤c,64=64,0<n,Room Tryd.prog 30 n]):=by kernel_rfl
theorem cP (hH:H=hV) (A:List Lf) (n c:Nat) (ty:TypeId) (B:List Lf) (m d:Nat) (ty2:TypeId) (R:List Nd) (us:List Value) (g:Nat→SV):bf [0,1,2,5] (M5P H hH A n c ty B m d ty2 R (stT H (ak ((us.drop (0+0)).take (n*64))) (ak ((([]:List Value).drop (0+0)).take (0*64)))) ) (aR (ΓbZP H hH) tys (opsOf R4).toList (((opsOf R4).toList.drop 2).take 8) ⟨fill g 0 (M4P H hH A n c ty B m d ty2 R ),m4P H hH A n c ty B m d ty2 R us ,[]⟩)=some ((live (M5P H hH A n c ty B m d ty2 R (stT H (ak ((us.drop (0+0)).take (n*64))) (ak ((([]:List Value).drop (0+0)).take (0*64)))) )).map (SV.ren (piF [0,1,2,5])),(M5P H hH A n c ty B m d ty2 R (stT H (ak ((us.drop (0+0)).take (n*64))) (ak ((([]:List Value).drop (0+0)).take (0*64)))) ).length,(m5P H hH A n c ty B m d ty2 R (stT H (ak ((us.drop (0+0)).take (n*64))) (ak ((([]:List Value).drop (0+0)).take (0*64)))) ).map (fun b=>some (b.ren (piF [0,1,2,5]))),[0+0+m*64≤(lvals B).length,m≤d,64=64,m=0,0+0+n*64≤us.length,n≤n,0+0+0*64≤0,0≤0,(us.drop (0+0)).take (n*64)=lvals (ak ((us.drop (0+0)).take (n*64))),(ak ((us.drop (0+0)).take (n*64))).length=n,(([]:List Value).drop (0+0)).take (0*64)=lvals (ak ((([]:List Value).drop (0+0)).take (0*64))),(ak ((([]:List Value).drop (0+0)).take (0*64))).length=0,n+0≤4000000,AllL (ak ((us.drop (0+0)).take (n*64))),AllL (ak ((([]:List Value).drop (0+0)).take (0*64))),aK (tndV (ak ((us.drop (0+0)).take (n*64))++ak ((([]:List Value).drop (0+0)).take (0*64))))=true,(stT H (ak ((us.drop (0+0)).take (n*64))) (ak ((([]:List Value).drop (0+0)).take (0*64))))≠[]]):=by kernel_rfl
theorem dP (hH:H=hV) (A:List Lf) (n c:Nat) (ty:TypeId) (B:List Lf) (m d:Nat) (ty2:TypeId) (R:List Nd) (T:List Nd) (g:Nat→SV):outN [0,1] (MR) (exec Γ5 tys 100 D ⟨fill g 0 (M5P H hH A n c ty B m d ty2 R T ),m5P H hH A n c ty B m d ty2 R T ,[]⟩)=some (.ret,(live (MR)).map (SV.ren (piF [0,1])),(MR).length,(m0 H hH A n c ty B m d ty2 ).map (fun b=>some (b.ren (piF [0,1]))),[0+0+T.length*65≤(ah T).length,T.length≤T.length,0+0+R.length*65≤(ah R).length,R.length≤R.length,((ah T).drop (0+0)).take (T.length*65)=((ah R).drop (0+0)).take (R.length*65),T.length=R.length,((ah T).drop (0+0)).take (T.length*65)=ah (au (((ah T).drop (0+0)).take (T.length*65))),(au (((ah T).drop (0+0)).take (T.length*65))).length=T.length,T.length≤8000000]):=by kernel_rfl
theorem run (hH:H=hV) (A:List Lf) (n c:Nat) (ty:TypeId) (B:List Lf) (m d:Nat) (ty2:TypeId) (hn:A.length=n) (hc:n≤c) (hA:AllL A) (hm:B.length=m) (hd:m≤d) (hB:AllL B) (hb:n+m≤4000000) (h0:0<n) (h1:m=0):aC Tryd.prog GT 2 body (aH fn [.o (.a (.sld 0 0 0 n c)),.o (.a (.sld 1 0 0 m d))]) [⟨false,ty,.prv (lvals A)⟩,⟨false,ty2,.prv (lvals B)⟩] (aF tys fn (aW (aL.enc true) .none)):=by
 subst h1
 obtain rfl:=List.eq_nil_of_length_eq_zero hm
 have hB':AllL ([]:List Lf):=AllL.nil
 have dA:((lvals A).drop (0+0)).take (n*64)=lvals A:=dtl hn
 have la:(lvals A).length=n*64:=by rw[←hn];exact bH A
 have dB:((lvals []).drop (0+0)).take (0*64)=lvals []:=rfl
 have hE0:ak ((([]:List Value).drop (0+0)).take (0*64))=[]:=lope.lfDec0
 have hX:AllL (A++[]):=AllL.app hA hB'
 have hap:=ap_of hX
 cases hq:rndD (A++[]) (A++[]).length with
 | true=>
  have q:=aE H hH A n c ty [] 0 d ty2
  rw[dA,aM,dB,aM] at q
  refine Runs.of_outNP aj mixed 3 [0,1] q ⟨by omega,hc,Nat.zero_le _,hd,rfl,hn,hA,rfl,hm,hB',by omega,hq,trivial⟩ (i3E H hH A n c ty [] 0 d ty2 ) (by kernel_rfl) fun g=> ?_
  rw[suf_3]
  refine Runs.seq (Runs.region ?_)
  have q:=bE H hH A n c ty [] 0 d ty2 g
  rw[dA] at q
  refine aI.aG aj 2 [0,1,2] q ⟨by omega,hc,rfl,h0,roomLf n (by omega),trivial⟩ (i4E H hH A n c ty [] 0 d ty2 _) rfl fun g=> ?_
  have q:=cE H hH A n c ty [] 0 d ty2 (lvals A) g
  rw[dA,aM,hE0] at q
  refine aI.aG aj 8 [0,1] q ⟨Nat.zero_le _,hd,rfl,rfl,by omega,Nat.le_refl _,by omega,Nat.le_refl _,rfl,hn,rfl,rfl,by omega,hA,hB',by rw[hap,hq];rfl,trivial⟩ (i5E H hH A n c ty [] 0 d ty2 ) rfl fun g=> ?_
  rw[nil4]
  refine aI.nil ?_
  show aC _ _ _ _ _ _ _
  exact Runs.aG aj mixed [0,1] (dE H hH A n c ty [] 0 d ty2 g) trivial (iR H hH A n c ty [] 0 d ty2) rfl fun g=>aF.ret (zr g _) rfl
 | false=>
  have heq:stT H A []=stR H A []:=by rw[hH];exact st_eq hA hB' hq
  have hneT:stT H A []≠[]:=by rw[heq];exact st_ne (fun a b=>by rw[hH];exact hV_ok a b) hA hB' (by omega) hq
  have hle:(stR H A []).length≤A.length:=by rw[hH];exact st_len hA hB' hq
  have q:=aP H hH A n c ty [] 0 d ty2
  rw[dA,aM,dB,aM] at q
  refine Runs.of_outNP aj mixed 3 [0,1,2] q ⟨by omega,hc,Nat.zero_le _,hd,rfl,hn,hA,rfl,hm,hB',by omega,hq,h0,trivial⟩ (i3P H hH A n c ty [] 0 d ty2 _) (by kernel_rfl) fun g=> ?_
  rw[suf_3]
  refine Runs.seq (Runs.region ?_)
  have q:=bP H hH A n c ty [] 0 d ty2 (stR H A []) g
  rw[dA] at q
  refine aI.aG aj 2 [0,1,2,3] q ⟨by omega,hc,rfl,h0,roomLf n (by omega),trivial⟩ (i4P H hH A n c ty [] 0 d ty2 _ _) rfl fun g=> ?_
  have q:=cP H hH A n c ty [] 0 d ty2 (stR H A []) (lvals A) g
  rw[dA,aM,hE0] at q
  refine aI.aG aj 8 [0,1,2,5] q ⟨Nat.zero_le _,hd,rfl,rfl,by omega,Nat.le_refl _,by omega,Nat.le_refl _,rfl,hn,rfl,rfl,by omega,hA,hB',by rw[hap,hq];rfl,hneT,trivial⟩ (i5P H hH A n c ty [] 0 d ty2 _ _) rfl fun g=> ?_
  rw[nil4]
  refine aI.nil ?_
  show aC _ _ _ _ _ _ _
  have hl:=aV (stT H A [])
  rw[heq]
  have ds:((ah (stR H A [])).drop (0+0)).take ((stR H A []).length*65)=ah (stR H A []):=dtn rfl
  have q:=dP H hH A n c ty [] 0 d ty2 (stR H A []) (stR H A []) g
  rw[ds,aS] at q
  exact Runs.aG aj mixed [0,1] q ⟨by rw[aV];omega,Nat.le_refl _,by rw[aV];omega,Nat.le_refl _,rfl,rfl,rfl,rfl,by omega,trivial⟩ (iR H hH A n c ty [] 0 d ty2) rfl fun g=>aF.ret (zr g _) rfl
end
end pz
namespace pn
section
variable (H:Nd→Nd→B32)
def m0 (hH:H=hV) (A:List Lf) (n c:Nat) (ty:TypeId) (b:Option Addr):List Blk:=[⟨false,ty,.prv (lvals A)⟩]
theorem iR (hH:H=hV) (A:List Lf) (n c:Nat) (ty:TypeId) (b:Option Addr):ay (m0 H hH A n c ty b ).length (MR) (m0 H hH A n c ty b )=true:=by kernel_rfl
def m3E (hH:H=hV) (A:List Lf) (n c:Nat) (ty:TypeId) (b:Option Addr):List Blk:=[⟨false,ty,.prv (lvals A)⟩]
def M3E (hH:H=hV) (A:List Lf) (n c:Nat) (ty:TypeId) (b:Option Addr):List (Option SV):=aA 33 0 [(0,.o (.a (.sld 0 0 0 n c))),(1,.o (.a (.v (.slice b 0 0)))),(5,.o (.a (.v (.slice none 0 0)))),(6,.o (.a (int1 .i64 1)))]
theorem i3E (hH:H=hV) (A:List Lf) (n c:Nat) (ty:TypeId) (b:Option Addr):ay (m3E H hH A n c ty b ).length (M3E H hH A n c ty b ) (m3E H hH A n c ty b )=true:=by kernel_rfl
def m4E (hH:H=hV) (A:List Lf) (n c:Nat) (ty:TypeId) (b:Option Addr) (us:List Value):List Blk:=[⟨false,ty,.prv (lvals A)⟩,⟨true,30,.grv 64 us n none⟩]
def M4E (hH:H=hV) (A:List Lf) (n c:Nat) (ty:TypeId) (b:Option Addr):List (Option SV):=aA 33 0 [(1,.o (.a (.v (.slice b 0 0)))),(5,.o (.a (.v (.slice none 0 0)))),(6,.o (.a (int1 .i64 1))),(19,.o (.a (.slg 1 n)))]
theorem i4E (hH:H=hV) (A:List Lf) (n c:Nat) (ty:TypeId) (b:Option Addr) (us:List Value):ay (m4E H hH A n c ty b us ).length (M4E H hH A n c ty b ) (m4E H hH A n c ty b us )=true:=by kernel_rfl
def m5E (hH:H=hV) (A:List Lf) (n c:Nat) (ty:TypeId) (b:Option Addr):List Blk:=[⟨false,ty,.prv (lvals A)⟩]
def M5E (hH:H=hV) (A:List Lf) (n c:Nat) (ty:TypeId) (b:Option Addr):List (Option SV):=aA 33 0 [(5,.o (.a (.v (.slice none 0 0)))),(6,.o (.a (int1 .i64 1))),(7,.o (.a (.v (.slice none 0 0)))),(8,.o (.a (int1 .i64 1)))]
theorem i5E (hH:H=hV) (A:List Lf) (n c:Nat) (ty:TypeId) (b:Option Addr):ay (m5E H hH A n c ty b ).length (M5E H hH A n c ty b ) (m5E H hH A n c ty b )=true:=by kernel_rfl
theorem aE (hH:H=hV) (A:List Lf) (n c:Nat) (ty:TypeId) (b:Option Addr):outN [0] (M3E H hH A n c ty b ) (exec (Γ3E H hH) tys 100 (cpre 3 body) ⟨aH fn [.o (.a (.sld 0 0 0 n c)),.o (.a (.v (.slice b 0 0)))],m0 H hH A n c ty b ,[]⟩)=some (.normal,(live (M3E H hH A n c ty b )).map (SV.ren (piF [0])),(M3E H hH A n c ty b ).length,(m3E H hH A n c ty b ).map (fun b=>some (b.ren (piF [0]))),[0+0+n*64≤(lvals A).length,n≤c,((lvals A).drop (0+0)).take (n*64)=lvals (ak (((lvals A).drop (0+0)).take (n*64))),(ak (((lvals A).drop (0+0)).take (n*64))).length=n,AllL (ak (((lvals A).drop (0+0)).take (n*64))),n≤4000000,rndD ((ak (((lvals A).drop (0+0)).take (n*64)))++[]) ((ak (((lvals A).drop (0+0)).take (n*64)))++[]).length=true]):=by kernel_rfl
theorem bE (hH:H=hV) (A:List Lf) (n c:Nat) (ty:TypeId) (b:Option Addr) (g:Nat→SV):bf [0,1] (M4E H hH A n c ty b ) (aR ΓaP tys (opsOf R4).toList (((opsOf R4).toList.drop 0).take 2) ⟨fill g 0 (M3E H hH A n c ty b ),m3E H hH A n c ty b ,[]⟩)=some ((live (M4E H hH A n c ty b )).map (SV.ren (piF [0,1])),(M4E H hH A n c ty b ).length,(m4E H hH A n c ty b (((lvals A).drop (0+0)).take (n*64)) ).map (fun b=>some (b.ren (piF [0,1]))),[0+0+n*64≤(lvals A).length,n≤c,64=64,0<n,Room Tryd.prog 30 n]):=by kernel_rfl
theorem cE (hH:H=hV) (A:List Lf) (n c:Nat) (ty:TypeId) (b:Option Addr) (us:List Value) (g:Nat→SV):bf [0] (M5E H hH A n c ty b ) (aR (ΓbZE H hH) tys (opsOf R4).toList (((opsOf R4).toList.drop 2).take 8) ⟨fill g 0 (M4E H hH A n c ty b ),m4E H hH A n c ty b us ,[]⟩)=some ((live (M5E H hH A n c ty b )).map (SV.ren (piF [0])),(M5E H hH A n c ty b ).length,(m5E H hH A n c ty b ).map (fun b=>some (b.ren (piF [0]))),[0+0+n*64≤us.length,n≤n,0+0+0*64≤0,0≤0,(us.drop (0+0)).take (n*64)=lvals (ak ((us.drop (0+0)).take (n*64))),(ak ((us.drop (0+0)).take (n*64))).length=n,(([]:List Value).drop (0+0)).take (0*64)=lvals (ak ((([]:List Value).drop (0+0)).take (0*64))),(ak ((([]:List Value).drop (0+0)).take (0*64))).length=0,n+0≤4000000,AllL (ak ((us.drop (0+0)).take (n*64))),AllL (ak ((([]:List Value).drop (0+0)).take (0*64))),aK (tndV (ak ((us.drop (0+0)).take (n*64))++ak ((([]:List Value).drop (0+0)).take (0*64))))=false]):=by kernel_rfl
theorem dE (hH:H=hV) (A:List Lf) (n c:Nat) (ty:TypeId) (b:Option Addr) (g:Nat→SV):outN [0] (MR) (exec Γ5 tys 100 D ⟨fill g 0 (M5E H hH A n c ty b ),m5E H hH A n c ty b ,[]⟩)=some (.ret,(live (MR)).map (SV.ren (piF [0])),(MR).length,(m0 H hH A n c ty b ).map (fun b=>some (b.ren (piF [0]))),[]):=by kernel_rfl
def m3P (hH:H=hV) (A:List Lf) (n c:Nat) (ty:TypeId) (b:Option Addr) (R:List Nd):List Blk:=[⟨false,ty,.prv (lvals A)⟩,⟨true,33,.grv 65 (ah R) R.length none⟩]
def M3P (hH:H=hV) (A:List Lf) (n c:Nat) (ty:TypeId) (b:Option Addr) (R:List Nd):List (Option SV):=aA 33 0 [(0,.o (.a (.sld 0 0 0 n c))),(1,.o (.a (.v (.slice b 0 0)))),(5,.o (.a (.slg 1 R.length))),(6,.o (.a (int1 .i64 0)))]
theorem i3P (hH:H=hV) (A:List Lf) (n c:Nat) (ty:TypeId) (b:Option Addr) (R:List Nd):ay (m3P H hH A n c ty b R ).length (M3P H hH A n c ty b R ) (m3P H hH A n c ty b R )=true:=by kernel_rfl
def m4P (hH:H=hV) (A:List Lf) (n c:Nat) (ty:TypeId) (b:Option Addr) (R:List Nd) (us:List Value):List Blk:=[⟨false,ty,.prv (lvals A)⟩,⟨true,33,.grv 65 (ah R) R.length none⟩,⟨true,30,.grv 64 us n none⟩]
def M4P (hH:H=hV) (A:List Lf) (n c:Nat) (ty:TypeId) (b:Option Addr) (R:List Nd):List (Option SV):=aA 33 0 [(1,.o (.a (.v (.slice b 0 0)))),(5,.o (.a (.slg 1 R.length))),(6,.o (.a (int1 .i64 0))),(19,.o (.a (.slg 2 n)))]
theorem i4P (hH:H=hV) (A:List Lf) (n c:Nat) (ty:TypeId) (b:Option Addr) (R:List Nd) (us:List Value):ay (m4P H hH A n c ty b R us ).length (M4P H hH A n c ty b R ) (m4P H hH A n c ty b R us )=true:=by kernel_rfl
def m5P (hH:H=hV) (A:List Lf) (n c:Nat) (ty:TypeId) (b:Option Addr) (R:List Nd) (T:List Nd):List Blk:=[⟨false,ty,.prv (lvals A)⟩,⟨true,33,.grv 65 (ah R) R.length none⟩,⟨true,33,.grv 65 (ah T) T.length none⟩]
def M5P (hH:H=hV) (A:List Lf) (n c:Nat) (ty:TypeId) (b:Option Addr) (R:List Nd) (T:List Nd):List (Option SV):=aA 33 0 [(5,.o (.a (.slg 1 R.length))),(6,.o (.a (int1 .i64 0))),(7,.o (.a (.slg 2 T.length))),(8,.o (.a (int1 .i64 0)))]
theorem i5P (hH:H=hV) (A:List Lf) (n c:Nat) (ty:TypeId) (b:Option Addr) (R:List Nd) (T:List Nd):ay (m5P H hH A n c ty b R T ).length (M5P H hH A n c ty b R T ) (m5P H hH A n c ty b R T )=true:=by kernel_rfl
theorem aP (hH:H=hV) (A:List Lf) (n c:Nat) (ty:TypeId) (b:Option Addr):outN [0,1] (M3P H hH A n c ty b (stR H (ak (((lvals A).drop (0+0)).take (n*64))) []) ) (exec (Γ3P H hH) tys 100 (cpre 3 body) ⟨aH fn [.o (.a (.sld 0 0 0 n c)),.o (.a (.v (.slice b 0 0)))],m0 H hH A n c ty b ,[]⟩)=some (.normal,(live (M3P H hH A n c ty b (stR H (ak (((lvals A).drop (0+0)).take (n*64))) []) )).map (SV.ren (piF [0,1])),(M3P H hH A n c ty b (stR H (ak (((lvals A).drop (0+0)).take (n*64))) []) ).length,(m3P H hH A n c ty b (stR H (ak (((lvals A).drop (0+0)).take (n*64))) []) ).map (fun b=>some (b.ren (piF [0,1]))),[0+0+n*64≤(lvals A).length,n≤c,((lvals A).drop (0+0)).take (n*64)=lvals (ak (((lvals A).drop (0+0)).take (n*64))),(ak (((lvals A).drop (0+0)).take (n*64))).length=n,AllL (ak (((lvals A).drop (0+0)).take (n*64))),n≤4000000,rndD ((ak (((lvals A).drop (0+0)).take (n*64)))++[]) ((ak (((lvals A).drop (0+0)).take (n*64)))++[]).length=false,0<n]):=by kernel_rfl
theorem bP (hH:H=hV) (A:List Lf) (n c:Nat) (ty:TypeId) (b:Option Addr) (R:List Nd) (g:Nat→SV):bf [0,1,2] (M4P H hH A n c ty b R ) (aR ΓaP tys (opsOf R4).toList (((opsOf R4).toList.drop 0).take 2) ⟨fill g 0 (M3P H hH A n c ty b R ),m3P H hH A n c ty b R ,[]⟩)=some ((live (M4P H hH A n c ty b R )).map (SV.ren (piF [0,1,2])),(M4P H hH A n c ty b R ).length,(m4P H hH A n c ty b R (((lvals A).drop (0+0)).take (n*64)) ).map (fun b=>some (b.ren (piF [0,1,2]))),[0+0+n*64≤(lvals A).length,n≤c,64=64,0<n,Room Tryd.prog 30 n]):=by kernel_rfl
theorem cP (hH:H=hV) (A:List Lf) (n c:Nat) (ty:TypeId) (b:Option Addr) (R:List Nd) (us:List Value) (g:Nat→SV):bf [0,1,4] (M5P H hH A n c ty b R (stT H (ak ((us.drop (0+0)).take (n*64))) (ak ((([]:List Value).drop (0+0)).take (0*64)))) ) (aR (ΓbZP H hH) tys (opsOf R4).toList (((opsOf R4).toList.drop 2).take 8) ⟨fill g 0 (M4P H hH A n c ty b R ),m4P H hH A n c ty b R us ,[]⟩)=some ((live (M5P H hH A n c ty b R (stT H (ak ((us.drop (0+0)).take (n*64))) (ak ((([]:List Value).drop (0+0)).take (0*64)))) )).map (SV.ren (piF [0,1,4])),(M5P H hH A n c ty b R (stT H (ak ((us.drop (0+0)).take (n*64))) (ak ((([]:List Value).drop (0+0)).take (0*64)))) ).length,(m5P H hH A n c ty b R (stT H (ak ((us.drop (0+0)).take (n*64))) (ak ((([]:List Value).drop (0+0)).take (0*64)))) ).map (fun b=>some (b.ren (piF [0,1,4]))),[0+0+n*64≤us.length,n≤n,0+0+0*64≤0,0≤0,(us.drop (0+0)).take (n*64)=lvals (ak ((us.drop (0+0)).take (n*64))),(ak ((us.drop (0+0)).take (n*64))).length=n,(([]:List Value).drop (0+0)).take (0*64)=lvals (ak ((([]:List Value).drop (0+0)).take (0*64))),(ak ((([]:List Value).drop (0+0)).take (0*64))).length=0,n+0≤4000000,AllL (ak ((us.drop (0+0)).take (n*64))),AllL (ak ((([]:List Value).drop (0+0)).take (0*64))),aK (tndV (ak ((us.drop (0+0)).take (n*64))++ak ((([]:List Value).drop (0+0)).take (0*64))))=true,(stT H (ak ((us.drop (0+0)).take (n*64))) (ak ((([]:List Value).drop (0+0)).take (0*64))))≠[]]):=by kernel_rfl
theorem dP (hH:H=hV) (A:List Lf) (n c:Nat) (ty:TypeId) (b:Option Addr) (R:List Nd) (T:List Nd) (g:Nat→SV):outN [0] (MR) (exec Γ5 tys 100 D ⟨fill g 0 (M5P H hH A n c ty b R T ),m5P H hH A n c ty b R T ,[]⟩)=some (.ret,(live (MR)).map (SV.ren (piF [0])),(MR).length,(m0 H hH A n c ty b ).map (fun b=>some (b.ren (piF [0]))),[0+0+T.length*65≤(ah T).length,T.length≤T.length,0+0+R.length*65≤(ah R).length,R.length≤R.length,((ah T).drop (0+0)).take (T.length*65)=((ah R).drop (0+0)).take (R.length*65),T.length=R.length,((ah T).drop (0+0)).take (T.length*65)=ah (au (((ah T).drop (0+0)).take (T.length*65))),(au (((ah T).drop (0+0)).take (T.length*65))).length=T.length,T.length≤8000000]):=by kernel_rfl
theorem run (hH:H=hV) (A:List Lf) (n c:Nat) (ty:TypeId) (b:Option Addr) (hn:A.length=n) (hc:n≤c) (hA:AllL A) (hb:n≤4000000) (h0:0<n):aC Tryd.prog GT 1 body (aH fn [.o (.a (.sld 0 0 0 n c)),.o (.a (.v (.slice b 0 0)))]) [⟨false,ty,.prv (lvals A)⟩] (aF tys fn (aW (aL.enc true) .none)):=by
 have hB':AllL ([]:List Lf):=AllL.nil
 have dA:((lvals A).drop (0+0)).take (n*64)=lvals A:=dtl hn
 have la:(lvals A).length=n*64:=by rw[←hn];exact bH A
 have hE0:ak ((([]:List Value).drop (0+0)).take (0*64))=[]:=lope.lfDec0
 have hX:AllL (A++[]):=AllL.app hA hB'
 have hap:=ap_of hX
 cases hq:rndD (A++[]) (A++[]).length with
 | true=>
  have q:=aE H hH A n c ty b
  rw[dA,aM] at q
  refine Runs.of_outNP aj mixed 3 [0] q ⟨by omega,hc,rfl,hn,hA,by omega,hq,trivial⟩ (i3E H hH A n c ty b ) (by kernel_rfl) fun g=> ?_
  rw[suf_3]
  refine Runs.seq (Runs.region ?_)
  have q:=bE H hH A n c ty b g
  rw[dA] at q
  refine aI.aG aj 2 [0,1] q ⟨by omega,hc,rfl,h0,roomLf n (by omega),trivial⟩ (i4E H hH A n c ty b _) rfl fun g=> ?_
  have q:=cE H hH A n c ty b (lvals A) g
  rw[dA,aM,hE0] at q
  refine aI.aG aj 8 [0] q ⟨by omega,Nat.le_refl _,by omega,Nat.le_refl _,rfl,hn,rfl,rfl,by omega,hA,hB',by rw[hap,hq];rfl,trivial⟩ (i5E H hH A n c ty b ) rfl fun g=> ?_
  rw[nil4]
  refine aI.nil ?_
  show aC _ _ _ _ _ _ _
  exact Runs.aG aj mixed [0] (dE H hH A n c ty b g) trivial (iR H hH A n c ty b) rfl fun g=>aF.ret (zr g _) rfl
 | false=>
  have heq:stT H A []=stR H A []:=by rw[hH];exact st_eq hA hB' hq
  have hneT:stT H A []≠[]:=by rw[heq];exact st_ne (fun a b=>by rw[hH];exact hV_ok a b) hA hB' (by omega) hq
  have hle:(stR H A []).length≤A.length:=by rw[hH];exact st_len hA hB' hq
  have q:=aP H hH A n c ty b
  rw[dA,aM] at q
  refine Runs.of_outNP aj mixed 3 [0,1] q ⟨by omega,hc,rfl,hn,hA,by omega,hq,h0,trivial⟩ (i3P H hH A n c ty b _) (by kernel_rfl) fun g=> ?_
  rw[suf_3]
  refine Runs.seq (Runs.region ?_)
  have q:=bP H hH A n c ty b (stR H A []) g
  rw[dA] at q
  refine aI.aG aj 2 [0,1,2] q ⟨by omega,hc,rfl,h0,roomLf n (by omega),trivial⟩ (i4P H hH A n c ty b _ _) rfl fun g=> ?_
  have q:=cP H hH A n c ty b (stR H A []) (lvals A) g
  rw[dA,aM,hE0] at q
  refine aI.aG aj 8 [0,1,4] q ⟨by omega,Nat.le_refl _,by omega,Nat.le_refl _,rfl,hn,rfl,rfl,by omega,hA,hB',by rw[hap,hq];rfl,hneT,trivial⟩ (i5P H hH A n c ty b _ _) rfl fun g=> ?_
  rw[nil4]
  refine aI.nil ?_
  show aC _ _ _ _ _ _ _
  have hl:=aV (stT H A [])
  rw[heq]
  have ds:((ah (stR H A [])).drop (0+0)).take ((stR H A []).length*65)=ah (stR H A []):=dtn rfl
  have q:=dP H hH A n c ty b (stR H A []) (stR H A []) g
  rw[ds,aS] at q
  exact Runs.aG aj mixed [0] q ⟨by rw[aV];omega,Nat.le_refl _,by rw[aV];omega,Nat.le_refl _,rfl,rfl,rfl,rfl,by omega,trivial⟩ (iR H hH A n c ty b) rfl fun g=>aF.ret (zr g _) rfl
end
end pn
namespace zp
section
variable (H:Nd→Nd→B32)
def m0 (hH:H=hV) (A:List Lf) (n c:Nat) (ty:TypeId) (B:List Lf) (m d:Nat) (ty2:TypeId):List Blk:=[⟨false,ty,.prv (lvals A)⟩,⟨false,ty2,.prv (lvals B)⟩]
theorem iR (hH:H=hV) (A:List Lf) (n c:Nat) (ty:TypeId) (B:List Lf) (m d:Nat) (ty2:TypeId):ay (m0 H hH A n c ty B m d ty2 ).length (MR) (m0 H hH A n c ty B m d ty2 )=true:=by kernel_rfl
def m3E (hH:H=hV) (A:List Lf) (n c:Nat) (ty:TypeId) (B:List Lf) (m d:Nat) (ty2:TypeId):List Blk:=[⟨false,ty,.prv (lvals A)⟩,⟨false,ty2,.prv (lvals B)⟩]
def M3E (hH:H=hV) (A:List Lf) (n c:Nat) (ty:TypeId) (B:List Lf) (m d:Nat) (ty2:TypeId):List (Option SV):=aA 33 0 [(0,.o (.a (.sld 0 0 0 n c))),(1,.o (.a (.sld 1 0 0 m d))),(5,.o (.a (.v (.slice none 0 0)))),(6,.o (.a (int1 .i64 1)))]
theorem i3E (hH:H=hV) (A:List Lf) (n c:Nat) (ty:TypeId) (B:List Lf) (m d:Nat) (ty2:TypeId):ay (m3E H hH A n c ty B m d ty2 ).length (M3E H hH A n c ty B m d ty2 ) (m3E H hH A n c ty B m d ty2 )=true:=by kernel_rfl
def m4E (hH:H=hV) (A:List Lf) (n c:Nat) (ty:TypeId) (B:List Lf) (m d:Nat) (ty2:TypeId):List Blk:=[⟨false,ty,.prv (lvals A)⟩,⟨false,ty2,.prv (lvals B)⟩,⟨true,30,.lit []⟩]
def M4E (hH:H=hV) (A:List Lf) (n c:Nat) (ty:TypeId) (B:List Lf) (m d:Nat) (ty2:TypeId):List (Option SV):=aA 33 0 [(1,.o (.a (.sld 1 0 0 m d))),(5,.o (.a (.v (.slice none 0 0)))),(6,.o (.a (int1 .i64 1))),(19,.o (.a (.slc 2 0 0 0)))]
theorem i4E (hH:H=hV) (A:List Lf) (n c:Nat) (ty:TypeId) (B:List Lf) (m d:Nat) (ty2:TypeId):ay (m4E H hH A n c ty B m d ty2 ).length (M4E H hH A n c ty B m d ty2 ) (m4E H hH A n c ty B m d ty2 )=true:=by kernel_rfl
def m5E (hH:H=hV) (A:List Lf) (n c:Nat) (ty:TypeId) (B:List Lf) (m d:Nat) (ty2:TypeId):List Blk:=[⟨false,ty,.prv (lvals A)⟩,⟨false,ty2,.prv (lvals B)⟩]
def M5E (hH:H=hV) (A:List Lf) (n c:Nat) (ty:TypeId) (B:List Lf) (m d:Nat) (ty2:TypeId):List (Option SV):=aA 33 0 [(5,.o (.a (.v (.slice none 0 0)))),(6,.o (.a (int1 .i64 1))),(7,.o (.a (.v (.slice none 0 0)))),(8,.o (.a (int1 .i64 1)))]
theorem i5E (hH:H=hV) (A:List Lf) (n c:Nat) (ty:TypeId) (B:List Lf) (m d:Nat) (ty2:TypeId):ay (m5E H hH A n c ty B m d ty2 ).length (M5E H hH A n c ty B m d ty2 ) (m5E H hH A n c ty B m d ty2 )=true:=by kernel_rfl
theorem aE (hH:H=hV) (A:List Lf) (n c:Nat) (ty:TypeId) (B:List Lf) (m d:Nat) (ty2:TypeId):outN [0,1] (M3E H hH A n c ty B m d ty2 ) (exec (Γ3E H hH) tys 100 (cpre 3 body) ⟨aH fn [.o (.a (.sld 0 0 0 n c)),.o (.a (.sld 1 0 0 m d))],m0 H hH A n c ty B m d ty2 ,[]⟩)=some (.normal,(live (M3E H hH A n c ty B m d ty2 )).map (SV.ren (piF [0,1])),(M3E H hH A n c ty B m d ty2 ).length,(m3E H hH A n c ty B m d ty2 ).map (fun b=>some (b.ren (piF [0,1]))),[0+0+n*64≤(lvals A).length,n≤c,0+0+m*64≤(lvals B).length,m≤d,((lvals A).drop (0+0)).take (n*64)=lvals (ak (((lvals A).drop (0+0)).take (n*64))),(ak (((lvals A).drop (0+0)).take (n*64))).length=n,AllL (ak (((lvals A).drop (0+0)).take (n*64))),((lvals B).drop (0+0)).take (m*64)=lvals (ak (((lvals B).drop (0+0)).take (m*64))),(ak (((lvals B).drop (0+0)).take (m*64))).length=m,AllL (ak (((lvals B).drop (0+0)).take (m*64))),n+m≤4000000,rndD ((ak (((lvals A).drop (0+0)).take (n*64)))++(ak (((lvals B).drop (0+0)).take (m*64)))) ((ak (((lvals A).drop (0+0)).take (n*64)))++(ak (((lvals B).drop (0+0)).take (m*64)))).length=true]):=by kernel_rfl
theorem bE (hH:H=hV) (A:List Lf) (n c:Nat) (ty:TypeId) (B:List Lf) (m d:Nat) (ty2:TypeId) (g:Nat→SV):bf [0,1,2] (M4E H hH A n c ty B m d ty2 ) (aR ΓaZ tys (opsOf R4).toList (((opsOf R4).toList.drop 0).take 2) ⟨fill g 0 (M3E H hH A n c ty B m d ty2 ),m3E H hH A n c ty B m d ty2 ,[]⟩)=some ((live (M4E H hH A n c ty B m d ty2 )).map (SV.ren (piF [0,1,2])),(M4E H hH A n c ty B m d ty2 ).length,(m4E H hH A n c ty B m d ty2 ).map (fun b=>some (b.ren (piF [0,1,2]))),[0+0+n*64≤(lvals A).length,n≤c,64=64,n=0]):=by kernel_rfl
theorem cE (hH:H=hV) (A:List Lf) (n c:Nat) (ty:TypeId) (B:List Lf) (m d:Nat) (ty2:TypeId) (g:Nat→SV):bf [0,1] (M5E H hH A n c ty B m d ty2 ) (aR (ΓbPE H hH) tys (opsOf R4).toList (((opsOf R4).toList.drop 2).take 8) ⟨fill g 0 (M4E H hH A n c ty B m d ty2 ),m4E H hH A n c ty B m d ty2 ,[]⟩)=some ((live (M5E H hH A n c ty B m d ty2 )).map (SV.ren (piF [0,1])),(M5E H hH A n c ty B m d ty2 ).length,(m5E H hH A n c ty B m d ty2 ).map (fun b=>some (b.ren (piF [0,1]))),[0+0+m*64≤(lvals B).length,m≤d,64=64,0<m,Room Tryd.prog 30 m,0+0+0*64≤0,0≤0,0+0+m*64≤(((lvals B).drop (0+0)).take (m*64)).length,m≤m,(([]:List Value).drop (0+0)).take (0*64)=lvals (ak ((([]:List Value).drop (0+0)).take (0*64))),(ak ((([]:List Value).drop (0+0)).take (0*64))).length=0,((((lvals B).drop (0+0)).take (m*64)).drop (0+0)).take (m*64)=lvals (ak (((((lvals B).drop (0+0)).take (m*64)).drop (0+0)).take (m*64))),(ak (((((lvals B).drop (0+0)).take (m*64)).drop (0+0)).take (m*64))).length=m,0+m≤4000000,AllL (ak ((([]:List Value).drop (0+0)).take (0*64))),AllL (ak (((((lvals B).drop (0+0)).take (m*64)).drop (0+0)).take (m*64))),aK (tndV (ak ((([]:List Value).drop (0+0)).take (0*64))++ak (((((lvals B).drop (0+0)).take (m*64)).drop (0+0)).take (m*64))))=false]):=by kernel_rfl
theorem dE (hH:H=hV) (A:List Lf) (n c:Nat) (ty:TypeId) (B:List Lf) (m d:Nat) (ty2:TypeId) (g:Nat→SV):outN [0,1] (MR) (exec Γ5 tys 100 D ⟨fill g 0 (M5E H hH A n c ty B m d ty2 ),m5E H hH A n c ty B m d ty2 ,[]⟩)=some (.ret,(live (MR)).map (SV.ren (piF [0,1])),(MR).length,(m0 H hH A n c ty B m d ty2 ).map (fun b=>some (b.ren (piF [0,1]))),[]):=by kernel_rfl
def m3Z (hH:H=hV) (A:List Lf) (n c:Nat) (ty:TypeId) (B:List Lf) (m d:Nat) (ty2:TypeId):List Blk:=[⟨false,ty,.prv (lvals A)⟩,⟨false,ty2,.prv (lvals B)⟩]
def M3Z (hH:H=hV) (A:List Lf) (n c:Nat) (ty:TypeId) (B:List Lf) (m d:Nat) (ty2:TypeId):List (Option SV):=aA 33 0 [(0,.o (.a (.sld 0 0 0 n c))),(1,.o (.a (.sld 1 0 0 m d))),(5,.o (.a (.v (.slice none 0 0)))),(6,.o (.a (int1 .i64 0)))]
theorem i3Z (hH:H=hV) (A:List Lf) (n c:Nat) (ty:TypeId) (B:List Lf) (m d:Nat) (ty2:TypeId):ay (m3Z H hH A n c ty B m d ty2 ).length (M3Z H hH A n c ty B m d ty2 ) (m3Z H hH A n c ty B m d ty2 )=true:=by kernel_rfl
def m4Z (hH:H=hV) (A:List Lf) (n c:Nat) (ty:TypeId) (B:List Lf) (m d:Nat) (ty2:TypeId):List Blk:=[⟨false,ty,.prv (lvals A)⟩,⟨false,ty2,.prv (lvals B)⟩,⟨true,30,.lit []⟩]
def M4Z (hH:H=hV) (A:List Lf) (n c:Nat) (ty:TypeId) (B:List Lf) (m d:Nat) (ty2:TypeId):List (Option SV):=aA 33 0 [(1,.o (.a (.sld 1 0 0 m d))),(5,.o (.a (.v (.slice none 0 0)))),(6,.o (.a (int1 .i64 0))),(19,.o (.a (.slc 2 0 0 0)))]
theorem i4Z (hH:H=hV) (A:List Lf) (n c:Nat) (ty:TypeId) (B:List Lf) (m d:Nat) (ty2:TypeId):ay (m4Z H hH A n c ty B m d ty2 ).length (M4Z H hH A n c ty B m d ty2 ) (m4Z H hH A n c ty B m d ty2 )=true:=by kernel_rfl
def m5Z (hH:H=hV) (A:List Lf) (n c:Nat) (ty:TypeId) (B:List Lf) (m d:Nat) (ty2:TypeId):List Blk:=[⟨false,ty,.prv (lvals A)⟩,⟨false,ty2,.prv (lvals B)⟩]
def M5Z (hH:H=hV) (A:List Lf) (n c:Nat) (ty:TypeId) (B:List Lf) (m d:Nat) (ty2:TypeId):List (Option SV):=aA 33 0 [(5,.o (.a (.v (.slice none 0 0)))),(6,.o (.a (int1 .i64 0))),(7,.o (.a (.v (.slice none 0 0)))),(8,.o (.a (int1 .i64 0)))]
theorem i5Z (hH:H=hV) (A:List Lf) (n c:Nat) (ty:TypeId) (B:List Lf) (m d:Nat) (ty2:TypeId):ay (m5Z H hH A n c ty B m d ty2 ).length (M5Z H hH A n c ty B m d ty2 ) (m5Z H hH A n c ty B m d ty2 )=true:=by kernel_rfl
theorem aZ (hH:H=hV) (A:List Lf) (n c:Nat) (ty:TypeId) (B:List Lf) (m d:Nat) (ty2:TypeId):outN [0,1] (M3Z H hH A n c ty B m d ty2 ) (exec (Γ3Z H hH) tys 100 (cpre 3 body) ⟨aH fn [.o (.a (.sld 0 0 0 n c)),.o (.a (.sld 1 0 0 m d))],m0 H hH A n c ty B m d ty2 ,[]⟩)=some (.normal,(live (M3Z H hH A n c ty B m d ty2 )).map (SV.ren (piF [0,1])),(M3Z H hH A n c ty B m d ty2 ).length,(m3Z H hH A n c ty B m d ty2 ).map (fun b=>some (b.ren (piF [0,1]))),[0+0+n*64≤(lvals A).length,n≤c,0+0+m*64≤(lvals B).length,m≤d,((lvals A).drop (0+0)).take (n*64)=lvals (ak (((lvals A).drop (0+0)).take (n*64))),(ak (((lvals A).drop (0+0)).take (n*64))).length=n,AllL (ak (((lvals A).drop (0+0)).take (n*64))),((lvals B).drop (0+0)).take (m*64)=lvals (ak (((lvals B).drop (0+0)).take (m*64))),(ak (((lvals B).drop (0+0)).take (m*64))).length=m,AllL (ak (((lvals B).drop (0+0)).take (m*64))),n+m≤4000000,rndD ((ak (((lvals A).drop (0+0)).take (n*64)))++(ak (((lvals B).drop (0+0)).take (m*64)))) ((ak (((lvals A).drop (0+0)).take (n*64)))++(ak (((lvals B).drop (0+0)).take (m*64)))).length=false,n=0]):=by kernel_rfl
theorem bZ (hH:H=hV) (A:List Lf) (n c:Nat) (ty:TypeId) (B:List Lf) (m d:Nat) (ty2:TypeId) (g:Nat→SV):bf [0,1,2] (M4Z H hH A n c ty B m d ty2 ) (aR ΓaZ tys (opsOf R4).toList (((opsOf R4).toList.drop 0).take 2) ⟨fill g 0 (M3Z H hH A n c ty B m d ty2 ),m3Z H hH A n c ty B m d ty2 ,[]⟩)=some ((live (M4Z H hH A n c ty B m d ty2 )).map (SV.ren (piF [0,1,2])),(M4Z H hH A n c ty B m d ty2 ).length,(m4Z H hH A n c ty B m d ty2 ).map (fun b=>some (b.ren (piF [0,1,2]))),[0+0+n*64≤(lvals A).length,n≤c,64=64,n=0]):=by kernel_rfl
theorem cZ (hH:H=hV) (A:List Lf) (n c:Nat) (ty:TypeId) (B:List Lf) (m d:Nat) (ty2:TypeId) (g:Nat→SV):bf [0,1] (M5Z H hH A n c ty B m d ty2 ) (aR (ΓbPZ H hH) tys (opsOf R4).toList (((opsOf R4).toList.drop 2).take 8) ⟨fill g 0 (M4Z H hH A n c ty B m d ty2 ),m4Z H hH A n c ty B m d ty2 ,[]⟩)=some ((live (M5Z H hH A n c ty B m d ty2 )).map (SV.ren (piF [0,1])),(M5Z H hH A n c ty B m d ty2 ).length,(m5Z H hH A n c ty B m d ty2 ).map (fun b=>some (b.ren (piF [0,1]))),[0+0+m*64≤(lvals B).length,m≤d,64=64,0<m,Room Tryd.prog 30 m,0+0+0*64≤0,0≤0,0+0+m*64≤(((lvals B).drop (0+0)).take (m*64)).length,m≤m,(([]:List Value).drop (0+0)).take (0*64)=lvals (ak ((([]:List Value).drop (0+0)).take (0*64))),(ak ((([]:List Value).drop (0+0)).take (0*64))).length=0,((((lvals B).drop (0+0)).take (m*64)).drop (0+0)).take (m*64)=lvals (ak (((((lvals B).drop (0+0)).take (m*64)).drop (0+0)).take (m*64))),(ak (((((lvals B).drop (0+0)).take (m*64)).drop (0+0)).take (m*64))).length=m,0+m≤4000000,AllL (ak ((([]:List Value).drop (0+0)).take (0*64))),AllL (ak (((((lvals B).drop (0+0)).take (m*64)).drop (0+0)).take (m*64))),aK (tndV (ak ((([]:List Value).drop (0+0)).take (0*64))++ak (((((lvals B).drop (0+0)).take (m*64)).drop (0+0)).take (m*64))))=true,(stT H (ak ((([]:List Value).drop (0+0)).take (0*64))) (ak (((((lvals B).drop (0+0)).take (m*64)).drop (0+0)).take (m*64))))=[]]):=by kernel_rfl
theorem dZ (hH:H=hV) (A:List Lf) (n c:Nat) (ty:TypeId) (B:List Lf) (m d:Nat) (ty2:TypeId) (g:Nat→SV):outN [0,1] (MR) (exec Γ5 tys 100 D ⟨fill g 0 (M5Z H hH A n c ty B m d ty2 ),m5Z H hH A n c ty B m d ty2 ,[]⟩)=some (.ret,(live (MR)).map (SV.ren (piF [0,1])),(MR).length,(m0 H hH A n c ty B m d ty2 ).map (fun b=>some (b.ren (piF [0,1]))),[]):=by kernel_rfl
theorem run (hH:H=hV) (A:List Lf) (n c:Nat) (ty:TypeId) (B:List Lf) (m d:Nat) (ty2:TypeId) (hn:A.length=n) (hc:n≤c) (hA:AllL A) (hm:B.length=m) (hd:m≤d) (hB:AllL B) (hb:n+m≤4000000) (h0:n=0) (h1:0<m):aC Tryd.prog GT 2 body (aH fn [.o (.a (.sld 0 0 0 n c)),.o (.a (.sld 1 0 0 m d))]) [⟨false,ty,.prv (lvals A)⟩,⟨false,ty2,.prv (lvals B)⟩] (aF tys fn (aW (aL.enc true) .none)):=by
 subst h0
 obtain rfl:=List.eq_nil_of_length_eq_zero hn
 have hA':AllL ([]:List Lf):=AllL.nil
 have dA:((lvals []).drop (0+0)).take (0*64)=lvals []:=rfl
 have dB:((lvals B).drop (0+0)).take (m*64)=lvals B:=dtl hm
 have lb:(lvals B).length=m*64:=by rw[←hm];exact bH B
 have hE0:ak ((([]:List Value).drop (0+0)).take (0*64))=[]:=lope.lfDec0
 have hX:AllL (([]:List Lf)++B):=AllL.app hA' hB
 have hap:=ap_of hX
 cases hq:rndD (([]:List Lf)++B) (([]:List Lf)++B).length with
 | true=>
  have q:=aE H hH [] 0 c ty B m d ty2
  rw[dA,aM,dB,aM] at q
  refine Runs.of_outNP aj mixed 3 [0,1] q ⟨Nat.zero_le _,hc,by omega,hd,rfl,hn,hA',rfl,hm,hB,by omega,hq,trivial⟩ (i3E H hH [] 0 c ty B m d ty2 ) (by kernel_rfl) fun g=> ?_
  rw[suf_3]
  refine Runs.seq (Runs.region ?_)
  have q:=bE H hH [] 0 c ty B m d ty2 g
  refine aI.aG aj 2 [0,1,2] q ⟨Nat.zero_le _,hc,rfl,rfl,trivial⟩ (i4E H hH [] 0 c ty B m d ty2 ) rfl fun g=> ?_
  have q:=cE H hH [] 0 c ty B m d ty2 g
  rw[dB,dB,aM,hE0] at q
  refine aI.aG aj 8 [0,1] q ⟨by omega,hd,rfl,h1,roomLf m (by omega),by omega,Nat.le_refl _,by omega,Nat.le_refl _,rfl,rfl,rfl,hm,by omega,hA',hB,by rw[hap,hq];rfl,trivial⟩ (i5E H hH [] 0 c ty B m d ty2 ) rfl fun g=> ?_
  rw[nil4]
  refine aI.nil ?_
  show aC _ _ _ _ _ _ _
  exact Runs.aG aj mixed [0,1] (dE H hH [] 0 c ty B m d ty2 g) trivial (iR H hH [] 0 c ty B m d ty2) rfl fun g=>aF.ret (zr g _) rfl
 | false=>
  have q:=aZ H hH [] 0 c ty B m d ty2
  rw[dA,aM,dB,aM] at q
  refine Runs.of_outNP aj mixed 3 [0,1] q ⟨Nat.zero_le _,hc,by omega,hd,rfl,hn,hA',rfl,hm,hB,by omega,hq,rfl,trivial⟩ (i3Z H hH [] 0 c ty B m d ty2 ) (by kernel_rfl) fun g=> ?_
  rw[suf_3]
  refine Runs.seq (Runs.region ?_)
  have q:=bZ H hH [] 0 c ty B m d ty2 g
  refine aI.aG aj 2 [0,1,2] q ⟨Nat.zero_le _,hc,rfl,rfl,trivial⟩ (i4Z H hH [] 0 c ty B m d ty2 ) rfl fun g=> ?_
  have q:=cZ H hH [] 0 c ty B m d ty2 g
  rw[dB,dB,aM,hE0] at q
  refine aI.aG aj 8 [0,1] q ⟨by omega,hd,rfl,h1,roomLf m (by omega),by omega,Nat.le_refl _,by omega,Nat.le_refl _,rfl,rfl,rfl,hm,by omega,hA',hB,by rw[hap,hq];rfl,st_nil H _,trivial⟩ (i5Z H hH [] 0 c ty B m d ty2 ) rfl fun g=> ?_
  rw[nil4]
  refine aI.nil ?_
  show aC _ _ _ _ _ _ _
  exact Runs.aG aj mixed [0,1] (dZ H hH [] 0 c ty B m d ty2 g) trivial (iR H hH [] 0 c ty B m d ty2) rfl fun g=>aF.ret (zr g _) rfl
end
end zp
namespace zz
section
variable (H:Nd→Nd→B32)
def m0 (hH:H=hV) (A:List Lf) (n c:Nat) (ty:TypeId) (B:List Lf) (m d:Nat) (ty2:TypeId):List Blk:=[⟨false,ty,.prv (lvals A)⟩,⟨false,ty2,.prv (lvals B)⟩]
theorem iR (hH:H=hV) (A:List Lf) (n c:Nat) (ty:TypeId) (B:List Lf) (m d:Nat) (ty2:TypeId):ay (m0 H hH A n c ty B m d ty2 ).length (MR) (m0 H hH A n c ty B m d ty2 )=true:=by kernel_rfl
def m3Z (hH:H=hV) (A:List Lf) (n c:Nat) (ty:TypeId) (B:List Lf) (m d:Nat) (ty2:TypeId):List Blk:=[⟨false,ty,.prv (lvals A)⟩,⟨false,ty2,.prv (lvals B)⟩]
def M3Z (hH:H=hV) (A:List Lf) (n c:Nat) (ty:TypeId) (B:List Lf) (m d:Nat) (ty2:TypeId):List (Option SV):=aA 33 0 [(0,.o (.a (.sld 0 0 0 n c))),(1,.o (.a (.sld 1 0 0 m d))),(5,.o (.a (.v (.slice none 0 0)))),(6,.o (.a (int1 .i64 0)))]
theorem i3Z (hH:H=hV) (A:List Lf) (n c:Nat) (ty:TypeId) (B:List Lf) (m d:Nat) (ty2:TypeId):ay (m3Z H hH A n c ty B m d ty2 ).length (M3Z H hH A n c ty B m d ty2 ) (m3Z H hH A n c ty B m d ty2 )=true:=by kernel_rfl
def m4Z (hH:H=hV) (A:List Lf) (n c:Nat) (ty:TypeId) (B:List Lf) (m d:Nat) (ty2:TypeId):List Blk:=[⟨false,ty,.prv (lvals A)⟩,⟨false,ty2,.prv (lvals B)⟩,⟨true,30,.lit []⟩]
def M4Z (hH:H=hV) (A:List Lf) (n c:Nat) (ty:TypeId) (B:List Lf) (m d:Nat) (ty2:TypeId):List (Option SV):=aA 33 0 [(1,.o (.a (.sld 1 0 0 m d))),(5,.o (.a (.v (.slice none 0 0)))),(6,.o (.a (int1 .i64 0))),(19,.o (.a (.slc 2 0 0 0)))]
theorem i4Z (hH:H=hV) (A:List Lf) (n c:Nat) (ty:TypeId) (B:List Lf) (m d:Nat) (ty2:TypeId):ay (m4Z H hH A n c ty B m d ty2 ).length (M4Z H hH A n c ty B m d ty2 ) (m4Z H hH A n c ty B m d ty2 )=true:=by kernel_rfl
def m5Z (hH:H=hV) (A:List Lf) (n c:Nat) (ty:TypeId) (B:List Lf) (m d:Nat) (ty2:TypeId):List Blk:=[⟨false,ty,.prv (lvals A)⟩,⟨false,ty2,.prv (lvals B)⟩]
def M5Z (hH:H=hV) (A:List Lf) (n c:Nat) (ty:TypeId) (B:List Lf) (m d:Nat) (ty2:TypeId):List (Option SV):=aA 33 0 [(5,.o (.a (.v (.slice none 0 0)))),(6,.o (.a (int1 .i64 0))),(7,.o (.a (.v (.slice none 0 0)))),(8,.o (.a (int1 .i64 0)))]
theorem i5Z (hH:H=hV) (A:List Lf) (n c:Nat) (ty:TypeId) (B:List Lf) (m d:Nat) (ty2:TypeId):ay (m5Z H hH A n c ty B m d ty2 ).length (M5Z H hH A n c ty B m d ty2 ) (m5Z H hH A n c ty B m d ty2 )=true:=by kernel_rfl
theorem aZ (hH:H=hV) (A:List Lf) (n c:Nat) (ty:TypeId) (B:List Lf) (m d:Nat) (ty2:TypeId):outN [0,1] (M3Z H hH A n c ty B m d ty2 ) (exec (Γ3Z H hH) tys 100 (cpre 3 body) ⟨aH fn [.o (.a (.sld 0 0 0 n c)),.o (.a (.sld 1 0 0 m d))],m0 H hH A n c ty B m d ty2 ,[]⟩)=some (.normal,(live (M3Z H hH A n c ty B m d ty2 )).map (SV.ren (piF [0,1])),(M3Z H hH A n c ty B m d ty2 ).length,(m3Z H hH A n c ty B m d ty2 ).map (fun b=>some (b.ren (piF [0,1]))),[0+0+n*64≤(lvals A).length,n≤c,0+0+m*64≤(lvals B).length,m≤d,((lvals A).drop (0+0)).take (n*64)=lvals (ak (((lvals A).drop (0+0)).take (n*64))),(ak (((lvals A).drop (0+0)).take (n*64))).length=n,AllL (ak (((lvals A).drop (0+0)).take (n*64))),((lvals B).drop (0+0)).take (m*64)=lvals (ak (((lvals B).drop (0+0)).take (m*64))),(ak (((lvals B).drop (0+0)).take (m*64))).length=m,AllL (ak (((lvals B).drop (0+0)).take (m*64))),n+m≤4000000,rndD ((ak (((lvals A).drop (0+0)).take (n*64)))++(ak (((lvals B).drop (0+0)).take (m*64)))) ((ak (((lvals A).drop (0+0)).take (n*64)))++(ak (((lvals B).drop (0+0)).take (m*64)))).length=false,n=0]):=by kernel_rfl
theorem bZ (hH:H=hV) (A:List Lf) (n c:Nat) (ty:TypeId) (B:List Lf) (m d:Nat) (ty2:TypeId) (g:Nat→SV):bf [0,1,2] (M4Z H hH A n c ty B m d ty2 ) (aR ΓaZ tys (opsOf R4).toList (((opsOf R4).toList.drop 0).take 2) ⟨fill g 0 (M3Z H hH A n c ty B m d ty2 ),m3Z H hH A n c ty B m d ty2 ,[]⟩)=some ((live (M4Z H hH A n c ty B m d ty2 )).map (SV.ren (piF [0,1,2])),(M4Z H hH A n c ty B m d ty2 ).length,(m4Z H hH A n c ty B m d ty2 ).map (fun b=>some (b.ren (piF [0,1,2]))),[0+0+n*64≤(lvals A).length,n≤c,64=64,n=0]):=by kernel_rfl
theorem cZ (hH:H=hV) (A:List Lf) (n c:Nat) (ty:TypeId) (B:List Lf) (m d:Nat) (ty2:TypeId) (g:Nat→SV):bf [0,1] (M5Z H hH A n c ty B m d ty2 ) (aR (ΓbZZ H hH) tys (opsOf R4).toList (((opsOf R4).toList.drop 2).take 8) ⟨fill g 0 (M4Z H hH A n c ty B m d ty2 ),m4Z H hH A n c ty B m d ty2 ,[]⟩)=some ((live (M5Z H hH A n c ty B m d ty2 )).map (SV.ren (piF [0,1])),(M5Z H hH A n c ty B m d ty2 ).length,(m5Z H hH A n c ty B m d ty2 ).map (fun b=>some (b.ren (piF [0,1]))),[0+0+m*64≤(lvals B).length,m≤d,64=64,m=0,0+0+0*64≤0,0≤0,0+0+0*64≤0,0≤0,(([]:List Value).drop (0+0)).take (0*64)=lvals (ak ((([]:List Value).drop (0+0)).take (0*64))),(ak ((([]:List Value).drop (0+0)).take (0*64))).length=0,(([]:List Value).drop (0+0)).take (0*64)=lvals (ak ((([]:List Value).drop (0+0)).take (0*64))),(ak ((([]:List Value).drop (0+0)).take (0*64))).length=0,0+0≤4000000,AllL (ak ((([]:List Value).drop (0+0)).take (0*64))),AllL (ak ((([]:List Value).drop (0+0)).take (0*64))),aK (tndV (ak ((([]:List Value).drop (0+0)).take (0*64))++ak ((([]:List Value).drop (0+0)).take (0*64))))=true,(stT H (ak ((([]:List Value).drop (0+0)).take (0*64))) (ak ((([]:List Value).drop (0+0)).take (0*64))))=[]]):=by kernel_rfl
theorem dZ (hH:H=hV) (A:List Lf) (n c:Nat) (ty:TypeId) (B:List Lf) (m d:Nat) (ty2:TypeId) (g:Nat→SV):outN [0,1] (MR) (exec Γ5 tys 100 D ⟨fill g 0 (M5Z H hH A n c ty B m d ty2 ),m5Z H hH A n c ty B m d ty2 ,[]⟩)=some (.ret,(live (MR)).map (SV.ren (piF [0,1])),(MR).length,(m0 H hH A n c ty B m d ty2 ).map (fun b=>some (b.ren (piF [0,1]))),[]):=by kernel_rfl
theorem run (hH:H=hV) (A:List Lf) (n c:Nat) (ty:TypeId) (B:List Lf) (m d:Nat) (ty2:TypeId) (hn:A.length=n) (hc:n≤c) (hA:AllL A) (hm:B.length=m) (hd:m≤d) (hB:AllL B) (hb:n+m≤4000000) (h0:n=0) (h1:m=0):aC Tryd.prog GT 2 body (aH fn [.o (.a (.sld 0 0 0 n c)),.o (.a (.sld 1 0 0 m d))]) [⟨false,ty,.prv (lvals A)⟩,⟨false,ty2,.prv (lvals B)⟩] (aF tys fn (aW (aL.enc true) .none)):=by
 subst h0
 obtain rfl:=List.eq_nil_of_length_eq_zero hn
 subst h1
 obtain rfl:=List.eq_nil_of_length_eq_zero hm
 have hA':AllL ([]:List Lf):=AllL.nil
 have hB':AllL ([]:List Lf):=AllL.nil
 have dA:((lvals []).drop (0+0)).take (0*64)=lvals []:=rfl
 have dB:((lvals []).drop (0+0)).take (0*64)=lvals []:=rfl
 have hE0:ak ((([]:List Value).drop (0+0)).take (0*64))=[]:=lope.lfDec0
 have hX:AllL (([]:List Lf)++[]):=AllL.app hA' hB'
 have hap:=ap_of hX
 have hap:aK (tndV (([]:List Lf)++([]:List Lf)))=true:=hap.trans rfl
 have q:=aZ H hH [] 0 c ty [] 0 d ty2
 rw[dA,aM] at q
 refine Runs.of_outNP aj mixed 3 [0,1] q ⟨Nat.zero_le _,hc,Nat.zero_le _,hd,rfl,hn,hA',rfl,hm,hB',by omega,rfl,rfl,trivial⟩ (i3Z H hH [] 0 c ty [] 0 d ty2 ) (by kernel_rfl) fun g=> ?_
 rw[suf_3]
 refine Runs.seq (Runs.region ?_)
 have q:=bZ H hH [] 0 c ty [] 0 d ty2 g
 refine aI.aG aj 2 [0,1,2] q ⟨Nat.zero_le _,hc,rfl,rfl,trivial⟩ (i4Z H hH [] 0 c ty [] 0 d ty2 ) rfl fun g=> ?_
 have q:=cZ H hH [] 0 c ty [] 0 d ty2 g
 rw[hE0] at q
 refine aI.aG aj 8 [0,1] q ⟨Nat.zero_le _,hd,rfl,rfl,by omega,Nat.le_refl _,by omega,Nat.le_refl _,rfl,rfl,rfl,rfl,by omega,hA',hB',hap,st_nil H _,trivial⟩ (i5Z H hH [] 0 c ty [] 0 d ty2 ) rfl fun g=> ?_
 rw[nil4]
 refine aI.nil ?_
 show aC _ _ _ _ _ _ _
 exact Runs.aG aj mixed [0,1] (dZ H hH [] 0 c ty [] 0 d ty2 g) trivial (iR H hH [] 0 c ty [] 0 d ty2) rfl fun g=>aF.ret (zr g _) rfl
end
end zz
namespace zn
section
variable (H:Nd→Nd→B32)
def m0 (hH:H=hV) (A:List Lf) (n c:Nat) (ty:TypeId) (b:Option Addr):List Blk:=[⟨false,ty,.prv (lvals A)⟩]
theorem iR (hH:H=hV) (A:List Lf) (n c:Nat) (ty:TypeId) (b:Option Addr):ay (m0 H hH A n c ty b ).length (MR) (m0 H hH A n c ty b )=true:=by kernel_rfl
def m3Z (hH:H=hV) (A:List Lf) (n c:Nat) (ty:TypeId) (b:Option Addr):List Blk:=[⟨false,ty,.prv (lvals A)⟩]
def M3Z (hH:H=hV) (A:List Lf) (n c:Nat) (ty:TypeId) (b:Option Addr):List (Option SV):=aA 33 0 [(0,.o (.a (.sld 0 0 0 n c))),(1,.o (.a (.v (.slice b 0 0)))),(5,.o (.a (.v (.slice none 0 0)))),(6,.o (.a (int1 .i64 0)))]
theorem i3Z (hH:H=hV) (A:List Lf) (n c:Nat) (ty:TypeId) (b:Option Addr):ay (m3Z H hH A n c ty b ).length (M3Z H hH A n c ty b ) (m3Z H hH A n c ty b )=true:=by kernel_rfl
def m4Z (hH:H=hV) (A:List Lf) (n c:Nat) (ty:TypeId) (b:Option Addr):List Blk:=[⟨false,ty,.prv (lvals A)⟩,⟨true,30,.lit []⟩]
def M4Z (hH:H=hV) (A:List Lf) (n c:Nat) (ty:TypeId) (b:Option Addr):List (Option SV):=aA 33 0 [(1,.o (.a (.v (.slice b 0 0)))),(5,.o (.a (.v (.slice none 0 0)))),(6,.o (.a (int1 .i64 0))),(19,.o (.a (.slc 1 0 0 0)))]
theorem i4Z (hH:H=hV) (A:List Lf) (n c:Nat) (ty:TypeId) (b:Option Addr):ay (m4Z H hH A n c ty b ).length (M4Z H hH A n c ty b ) (m4Z H hH A n c ty b )=true:=by kernel_rfl
def m5Z (hH:H=hV) (A:List Lf) (n c:Nat) (ty:TypeId) (b:Option Addr):List Blk:=[⟨false,ty,.prv (lvals A)⟩]
def M5Z (hH:H=hV) (A:List Lf) (n c:Nat) (ty:TypeId) (b:Option Addr):List (Option SV):=aA 33 0 [(5,.o (.a (.v (.slice none 0 0)))),(6,.o (.a (int1 .i64 0))),(7,.o (.a (.v (.slice none 0 0)))),(8,.o (.a (int1 .i64 0)))]
theorem i5Z (hH:H=hV) (A:List Lf) (n c:Nat) (ty:TypeId) (b:Option Addr):ay (m5Z H hH A n c ty b ).length (M5Z H hH A n c ty b ) (m5Z H hH A n c ty b )=true:=by kernel_rfl
theorem aZ (hH:H=hV) (A:List Lf) (n c:Nat) (ty:TypeId) (b:Option Addr):outN [0] (M3Z H hH A n c ty b ) (exec (Γ3Z H hH) tys 100 (cpre 3 body) ⟨aH fn [.o (.a (.sld 0 0 0 n c)),.o (.a (.v (.slice b 0 0)))],m0 H hH A n c ty b ,[]⟩)=some (.normal,(live (M3Z H hH A n c ty b )).map (SV.ren (piF [0])),(M3Z H hH A n c ty b ).length,(m3Z H hH A n c ty b ).map (fun b=>some (b.ren (piF [0]))),[0+0+n*64≤(lvals A).length,n≤c,((lvals A).drop (0+0)).take (n*64)=lvals (ak (((lvals A).drop (0+0)).take (n*64))),(ak (((lvals A).drop (0+0)).take (n*64))).length=n,AllL (ak (((lvals A).drop (0+0)).take (n*64))),n≤4000000,rndD ((ak (((lvals A).drop (0+0)).take (n*64)))++[]) ((ak (((lvals A).drop (0+0)).take (n*64)))++[]).length=false,n=0]):=by kernel_rfl
theorem bZ (hH:H=hV) (A:List Lf) (n c:Nat) (ty:TypeId) (b:Option Addr) (g:Nat→SV):bf [0,1] (M4Z H hH A n c ty b ) (aR ΓaZ tys (opsOf R4).toList (((opsOf R4).toList.drop 0).take 2) ⟨fill g 0 (M3Z H hH A n c ty b ),m3Z H hH A n c ty b ,[]⟩)=some ((live (M4Z H hH A n c ty b )).map (SV.ren (piF [0,1])),(M4Z H hH A n c ty b ).length,(m4Z H hH A n c ty b ).map (fun b=>some (b.ren (piF [0,1]))),[0+0+n*64≤(lvals A).length,n≤c,64=64,n=0]):=by kernel_rfl
theorem cZ (hH:H=hV) (A:List Lf) (n c:Nat) (ty:TypeId) (b:Option Addr) (g:Nat→SV):bf [0] (M5Z H hH A n c ty b ) (aR (ΓbZZ H hH) tys (opsOf R4).toList (((opsOf R4).toList.drop 2).take 8) ⟨fill g 0 (M4Z H hH A n c ty b ),m4Z H hH A n c ty b ,[]⟩)=some ((live (M5Z H hH A n c ty b )).map (SV.ren (piF [0])),(M5Z H hH A n c ty b ).length,(m5Z H hH A n c ty b ).map (fun b=>some (b.ren (piF [0]))),[0+0+0*64≤0,0≤0,0+0+0*64≤0,0≤0,(([]:List Value).drop (0+0)).take (0*64)=lvals (ak ((([]:List Value).drop (0+0)).take (0*64))),(ak ((([]:List Value).drop (0+0)).take (0*64))).length=0,(([]:List Value).drop (0+0)).take (0*64)=lvals (ak ((([]:List Value).drop (0+0)).take (0*64))),(ak ((([]:List Value).drop (0+0)).take (0*64))).length=0,0+0≤4000000,AllL (ak ((([]:List Value).drop (0+0)).take (0*64))),AllL (ak ((([]:List Value).drop (0+0)).take (0*64))),aK (tndV (ak ((([]:List Value).drop (0+0)).take (0*64))++ak ((([]:List Value).drop (0+0)).take (0*64))))=true,(stT H (ak ((([]:List Value).drop (0+0)).take (0*64))) (ak ((([]:List Value).drop (0+0)).take (0*64))))=[]]):=by kernel_rfl
theorem dZ (hH:H=hV) (A:List Lf) (n c:Nat) (ty:TypeId) (b:Option Addr) (g:Nat→SV):outN [0] (MR) (exec Γ5 tys 100 D ⟨fill g 0 (M5Z H hH A n c ty b ),m5Z H hH A n c ty b ,[]⟩)=some (.ret,(live (MR)).map (SV.ren (piF [0])),(MR).length,(m0 H hH A n c ty b ).map (fun b=>some (b.ren (piF [0]))),[]):=by kernel_rfl
theorem run (hH:H=hV) (A:List Lf) (n c:Nat) (ty:TypeId) (b:Option Addr) (hn:A.length=n) (hc:n≤c) (hA:AllL A) (hb:n≤4000000) (h0:n=0):aC Tryd.prog GT 1 body (aH fn [.o (.a (.sld 0 0 0 n c)),.o (.a (.v (.slice b 0 0)))]) [⟨false,ty,.prv (lvals A)⟩] (aF tys fn (aW (aL.enc true) .none)):=by
 subst h0
 obtain rfl:=List.eq_nil_of_length_eq_zero hn
 have hA':AllL ([]:List Lf):=AllL.nil
 have hB':AllL ([]:List Lf):=AllL.nil
 have dA:((lvals []).drop (0+0)).take (0*64)=lvals []:=rfl
 have hE0:ak ((([]:List Value).drop (0+0)).take (0*64))=[]:=lope.lfDec0
 have hX:AllL (([]:List Lf)++[]):=AllL.app hA' hB'
 have hap:=ap_of hX
 have hap:aK (tndV (([]:List Lf)++([]:List Lf)))=true:=hap.trans rfl
 have q:=aZ H hH [] 0 c ty b
 rw[dA,aM] at q
 refine Runs.of_outNP aj mixed 3 [0] q ⟨Nat.zero_le _,hc,rfl,hn,hA',by omega,rfl,rfl,trivial⟩ (i3Z H hH [] 0 c ty b ) (by kernel_rfl) fun g=> ?_
 rw[suf_3]
 refine Runs.seq (Runs.region ?_)
 have q:=bZ H hH [] 0 c ty b g
 refine aI.aG aj 2 [0,1] q ⟨Nat.zero_le _,hc,rfl,rfl,trivial⟩ (i4Z H hH [] 0 c ty b ) rfl fun g=> ?_
 have q:=cZ H hH [] 0 c ty b g
 rw[hE0] at q
 refine aI.aG aj 8 [0] q ⟨by omega,Nat.le_refl _,by omega,Nat.le_refl _,rfl,rfl,rfl,rfl,by omega,hA',hB',hap,st_nil H _,trivial⟩ (i5Z H hH [] 0 c ty b ) rfl fun g=> ?_
 rw[nil4]
 refine aI.nil ?_
 show aC _ _ _ _ _ _ _
 exact Runs.aG aj mixed [0] (dZ H hH [] 0 c ty b g) trivial (iR H hH [] 0 c ty b) rfl fun g=>aF.ret (zr g _) rfl
end
end zn
namespace np
section
variable (H:Nd→Nd→B32)
def m0 (hH:H=hV) (a:Option Addr) (B:List Lf) (m d:Nat) (ty2:TypeId):List Blk:=[⟨false,ty2,.prv (lvals B)⟩]
theorem iR (hH:H=hV) (a:Option Addr) (B:List Lf) (m d:Nat) (ty2:TypeId):ay (m0 H hH a B m d ty2 ).length (MR) (m0 H hH a B m d ty2 )=true:=by kernel_rfl
def m3E (hH:H=hV) (a:Option Addr) (B:List Lf) (m d:Nat) (ty2:TypeId):List Blk:=[⟨false,ty2,.prv (lvals B)⟩]
def M3E (hH:H=hV) (a:Option Addr) (B:List Lf) (m d:Nat) (ty2:TypeId):List (Option SV):=aA 33 0 [(0,.o (.a (.v (.slice a 0 0)))),(1,.o (.a (.sld 0 0 0 m d))),(5,.o (.a (.v (.slice none 0 0)))),(6,.o (.a (int1 .i64 1)))]
theorem i3E (hH:H=hV) (a:Option Addr) (B:List Lf) (m d:Nat) (ty2:TypeId):ay (m3E H hH a B m d ty2 ).length (M3E H hH a B m d ty2 ) (m3E H hH a B m d ty2 )=true:=by kernel_rfl
def m4E (hH:H=hV) (a:Option Addr) (B:List Lf) (m d:Nat) (ty2:TypeId):List Blk:=[⟨false,ty2,.prv (lvals B)⟩,⟨true,30,.lit []⟩]
def M4E (hH:H=hV) (a:Option Addr) (B:List Lf) (m d:Nat) (ty2:TypeId):List (Option SV):=aA 33 0 [(1,.o (.a (.sld 0 0 0 m d))),(5,.o (.a (.v (.slice none 0 0)))),(6,.o (.a (int1 .i64 1))),(19,.o (.a (.slc 1 0 0 0)))]
theorem i4E (hH:H=hV) (a:Option Addr) (B:List Lf) (m d:Nat) (ty2:TypeId):ay (m4E H hH a B m d ty2 ).length (M4E H hH a B m d ty2 ) (m4E H hH a B m d ty2 )=true:=by kernel_rfl
def m5E (hH:H=hV) (a:Option Addr) (B:List Lf) (m d:Nat) (ty2:TypeId):List Blk:=[⟨false,ty2,.prv (lvals B)⟩]
def M5E (hH:H=hV) (a:Option Addr) (B:List Lf) (m d:Nat) (ty2:TypeId):List (Option SV):=aA 33 0 [(5,.o (.a (.v (.slice none 0 0)))),(6,.o (.a (int1 .i64 1))),(7,.o (.a (.v (.slice none 0 0)))),(8,.o (.a (int1 .i64 1)))]
theorem i5E (hH:H=hV) (a:Option Addr) (B:List Lf) (m d:Nat) (ty2:TypeId):ay (m5E H hH a B m d ty2 ).length (M5E H hH a B m d ty2 ) (m5E H hH a B m d ty2 )=true:=by kernel_rfl
theorem aE (hH:H=hV) (a:Option Addr) (B:List Lf) (m d:Nat) (ty2:TypeId):outN [0] (M3E H hH a B m d ty2 ) (exec (Γ3E H hH) tys 100 (cpre 3 body) ⟨aH fn [.o (.a (.v (.slice a 0 0))),.o (.a (.sld 0 0 0 m d))],m0 H hH a B m d ty2 ,[]⟩)=some (.normal,(live (M3E H hH a B m d ty2 )).map (SV.ren (piF [0])),(M3E H hH a B m d ty2 ).length,(m3E H hH a B m d ty2 ).map (fun b=>some (b.ren (piF [0]))),[0+0+m*64≤(lvals B).length,m≤d,((lvals B).drop (0+0)).take (m*64)=lvals (ak (((lvals B).drop (0+0)).take (m*64))),(ak (((lvals B).drop (0+0)).take (m*64))).length=m,AllL (ak (((lvals B).drop (0+0)).take (m*64))),m≤4000000,rndD (([]:List Lf)++(ak (((lvals B).drop (0+0)).take (m*64)))) (([]:List Lf)++(ak (((lvals B).drop (0+0)).take (m*64)))).length=true]):=by kernel_rfl
theorem bE (hH:H=hV) (a:Option Addr) (B:List Lf) (m d:Nat) (ty2:TypeId) (g:Nat→SV):bf [0,1] (M4E H hH a B m d ty2 ) (aR ΓaZ tys (opsOf R4).toList (((opsOf R4).toList.drop 0).take 2) ⟨fill g 0 (M3E H hH a B m d ty2 ),m3E H hH a B m d ty2 ,[]⟩)=some ((live (M4E H hH a B m d ty2 )).map (SV.ren (piF [0,1])),(M4E H hH a B m d ty2 ).length,(m4E H hH a B m d ty2 ).map (fun b=>some (b.ren (piF [0,1]))),[]):=by kernel_rfl
theorem cE (hH:H=hV) (a:Option Addr) (B:List Lf) (m d:Nat) (ty2:TypeId) (g:Nat→SV):bf [0] (M5E H hH a B m d ty2 ) (aR (ΓbPE H hH) tys (opsOf R4).toList (((opsOf R4).toList.drop 2).take 8) ⟨fill g 0 (M4E H hH a B m d ty2 ),m4E H hH a B m d ty2 ,[]⟩)=some ((live (M5E H hH a B m d ty2 )).map (SV.ren (piF [0])),(M5E H hH a B m d ty2 ).length,(m5E H hH a B m d ty2 ).map (fun b=>some (b.ren (piF [0]))),[0+0+m*64≤(lvals B).length,m≤d,64=64,0<m,Room Tryd.prog 30 m,0+0+0*64≤0,0≤0,0+0+m*64≤(((lvals B).drop (0+0)).take (m*64)).length,m≤m,(([]:List Value).drop (0+0)).take (0*64)=lvals (ak ((([]:List Value).drop (0+0)).take (0*64))),(ak ((([]:List Value).drop (0+0)).take (0*64))).length=0,((((lvals B).drop (0+0)).take (m*64)).drop (0+0)).take (m*64)=lvals (ak (((((lvals B).drop (0+0)).take (m*64)).drop (0+0)).take (m*64))),(ak (((((lvals B).drop (0+0)).take (m*64)).drop (0+0)).take (m*64))).length=m,0+m≤4000000,AllL (ak ((([]:List Value).drop (0+0)).take (0*64))),AllL (ak (((((lvals B).drop (0+0)).take (m*64)).drop (0+0)).take (m*64))),aK (tndV (ak ((([]:List Value).drop (0+0)).take (0*64))++ak (((((lvals B).drop (0+0)).take (m*64)).drop (0+0)).take (m*64))))=false]):=by kernel_rfl
theorem dE (hH:H=hV) (a:Option Addr) (B:List Lf) (m d:Nat) (ty2:TypeId) (g:Nat→SV):outN [0] (MR) (exec Γ5 tys 100 D ⟨fill g 0 (M5E H hH a B m d ty2 ),m5E H hH a B m d ty2 ,[]⟩)=some (.ret,(live (MR)).map (SV.ren (piF [0])),(MR).length,(m0 H hH a B m d ty2 ).map (fun b=>some (b.ren (piF [0]))),[]):=by kernel_rfl
def m3Z (hH:H=hV) (a:Option Addr) (B:List Lf) (m d:Nat) (ty2:TypeId):List Blk:=[⟨false,ty2,.prv (lvals B)⟩]
def M3Z (hH:H=hV) (a:Option Addr) (B:List Lf) (m d:Nat) (ty2:TypeId):List (Option SV):=aA 33 0 [(0,.o (.a (.v (.slice a 0 0)))),(1,.o (.a (.sld 0 0 0 m d))),(5,.o (.a (.v (.slice none 0 0)))),(6,.o (.a (int1 .i64 0)))]
theorem i3Z (hH:H=hV) (a:Option Addr) (B:List Lf) (m d:Nat) (ty2:TypeId):ay (m3Z H hH a B m d ty2 ).length (M3Z H hH a B m d ty2 ) (m3Z H hH a B m d ty2 )=true:=by kernel_rfl
def m4Z (hH:H=hV) (a:Option Addr) (B:List Lf) (m d:Nat) (ty2:TypeId):List Blk:=[⟨false,ty2,.prv (lvals B)⟩,⟨true,30,.lit []⟩]
def M4Z (hH:H=hV) (a:Option Addr) (B:List Lf) (m d:Nat) (ty2:TypeId):List (Option SV):=aA 33 0 [(1,.o (.a (.sld 0 0 0 m d))),(5,.o (.a (.v (.slice none 0 0)))),(6,.o (.a (int1 .i64 0))),(19,.o (.a (.slc 1 0 0 0)))]
theorem i4Z (hH:H=hV) (a:Option Addr) (B:List Lf) (m d:Nat) (ty2:TypeId):ay (m4Z H hH a B m d ty2 ).length (M4Z H hH a B m d ty2 ) (m4Z H hH a B m d ty2 )=true:=by kernel_rfl
def m5Z (hH:H=hV) (a:Option Addr) (B:List Lf) (m d:Nat) (ty2:TypeId):List Blk:=[⟨false,ty2,.prv (lvals B)⟩]
def M5Z (hH:H=hV) (a:Option Addr) (B:List Lf) (m d:Nat) (ty2:TypeId):List (Option SV):=aA 33 0 [(5,.o (.a (.v (.slice none 0 0)))),(6,.o (.a (int1 .i64 0))),(7,.o (.a (.v (.slice none 0 0)))),(8,.o (.a (int1 .i64 0)))]
theorem i5Z (hH:H=hV) (a:Option Addr) (B:List Lf) (m d:Nat) (ty2:TypeId):ay (m5Z H hH a B m d ty2 ).length (M5Z H hH a B m d ty2 ) (m5Z H hH a B m d ty2 )=true:=by kernel_rfl
theorem aZ (hH:H=hV) (a:Option Addr) (B:List Lf) (m d:Nat) (ty2:TypeId):outN [0] (M3Z H hH a B m d ty2 ) (exec (Γ3Z H hH) tys 100 (cpre 3 body) ⟨aH fn [.o (.a (.v (.slice a 0 0))),.o (.a (.sld 0 0 0 m d))],m0 H hH a B m d ty2 ,[]⟩)=some (.normal,(live (M3Z H hH a B m d ty2 )).map (SV.ren (piF [0])),(M3Z H hH a B m d ty2 ).length,(m3Z H hH a B m d ty2 ).map (fun b=>some (b.ren (piF [0]))),[0+0+m*64≤(lvals B).length,m≤d,((lvals B).drop (0+0)).take (m*64)=lvals (ak (((lvals B).drop (0+0)).take (m*64))),(ak (((lvals B).drop (0+0)).take (m*64))).length=m,AllL (ak (((lvals B).drop (0+0)).take (m*64))),m≤4000000,rndD (([]:List Lf)++(ak (((lvals B).drop (0+0)).take (m*64)))) (([]:List Lf)++(ak (((lvals B).drop (0+0)).take (m*64)))).length=false]):=by kernel_rfl
theorem bZ (hH:H=hV) (a:Option Addr) (B:List Lf) (m d:Nat) (ty2:TypeId) (g:Nat→SV):bf [0,1] (M4Z H hH a B m d ty2 ) (aR ΓaZ tys (opsOf R4).toList (((opsOf R4).toList.drop 0).take 2) ⟨fill g 0 (M3Z H hH a B m d ty2 ),m3Z H hH a B m d ty2 ,[]⟩)=some ((live (M4Z H hH a B m d ty2 )).map (SV.ren (piF [0,1])),(M4Z H hH a B m d ty2 ).length,(m4Z H hH a B m d ty2 ).map (fun b=>some (b.ren (piF [0,1]))),[]):=by kernel_rfl
theorem cZ (hH:H=hV) (a:Option Addr) (B:List Lf) (m d:Nat) (ty2:TypeId) (g:Nat→SV):bf [0] (M5Z H hH a B m d ty2 ) (aR (ΓbPZ H hH) tys (opsOf R4).toList (((opsOf R4).toList.drop 2).take 8) ⟨fill g 0 (M4Z H hH a B m d ty2 ),m4Z H hH a B m d ty2 ,[]⟩)=some ((live (M5Z H hH a B m d ty2 )).map (SV.ren (piF [0])),(M5Z H hH a B m d ty2 ).length,(m5Z H hH a B m d ty2 ).map (fun b=>some (b.ren (piF [0]))),[0+0+m*64≤(lvals B).length,m≤d,64=64,0<m,Room Tryd.prog 30 m,0+0+0*64≤0,0≤0,0+0+m*64≤(((lvals B).drop (0+0)).take (m*64)).length,m≤m,(([]:List Value).drop (0+0)).take (0*64)=lvals (ak ((([]:List Value).drop (0+0)).take (0*64))),(ak ((([]:List Value).drop (0+0)).take (0*64))).length=0,((((lvals B).drop (0+0)).take (m*64)).drop (0+0)).take (m*64)=lvals (ak (((((lvals B).drop (0+0)).take (m*64)).drop (0+0)).take (m*64))),(ak (((((lvals B).drop (0+0)).take (m*64)).drop (0+0)).take (m*64))).length=m,0+m≤4000000,AllL (ak ((([]:List Value).drop (0+0)).take (0*64))),AllL (ak (((((lvals B).drop (0+0)).take (m*64)).drop (0+0)).take (m*64))),aK (tndV (ak ((([]:List Value).drop (0+0)).take (0*64))++ak (((((lvals B).drop (0+0)).take (m*64)).drop (0+0)).take (m*64))))=true,(stT H (ak ((([]:List Value).drop (0+0)).take (0*64))) (ak (((((lvals B).drop (0+0)).take (m*64)).drop (0+0)).take (m*64))))=[]]):=by kernel_rfl
theorem dZ (hH:H=hV) (a:Option Addr) (B:List Lf) (m d:Nat) (ty2:TypeId) (g:Nat→SV):outN [0] (MR) (exec Γ5 tys 100 D ⟨fill g 0 (M5Z H hH a B m d ty2 ),m5Z H hH a B m d ty2 ,[]⟩)=some (.ret,(live (MR)).map (SV.ren (piF [0])),(MR).length,(m0 H hH a B m d ty2 ).map (fun b=>some (b.ren (piF [0]))),[]):=by kernel_rfl
theorem run (hH:H=hV) (a:Option Addr) (B:List Lf) (m d:Nat) (ty2:TypeId) (hm:B.length=m) (hd:m≤d) (hB:AllL B) (hb:m≤4000000) (h1:0<m):aC Tryd.prog GT 1 body (aH fn [.o (.a (.v (.slice a 0 0))),.o (.a (.sld 0 0 0 m d))]) [⟨false,ty2,.prv (lvals B)⟩] (aF tys fn (aW (aL.enc true) .none)):=by
 have hA':AllL ([]:List Lf):=AllL.nil
 have dB:((lvals B).drop (0+0)).take (m*64)=lvals B:=dtl hm
 have lb:(lvals B).length=m*64:=by rw[←hm];exact bH B
 have hE0:ak ((([]:List Value).drop (0+0)).take (0*64))=[]:=lope.lfDec0
 have hX:AllL (([]:List Lf)++B):=AllL.app hA' hB
 have hap:=ap_of hX
 cases hq:rndD (([]:List Lf)++B) (([]:List Lf)++B).length with
 | true=>
  have q:=aE H hH a B m d ty2
  rw[dB,aM] at q
  refine Runs.of_outNP aj mixed 3 [0] q ⟨by omega,hd,rfl,hm,hB,by omega,hq,trivial⟩ (i3E H hH a B m d ty2 ) (by kernel_rfl) fun g=> ?_
  rw[suf_3]
  refine Runs.seq (Runs.region ?_)
  have q:=bE H hH a B m d ty2 g
  refine aI.aG aj 2 [0,1] q trivial (i4E H hH a B m d ty2 ) rfl fun g=> ?_
  have q:=cE H hH a B m d ty2 g
  rw[dB,dB,aM,hE0] at q
  refine aI.aG aj 8 [0] q ⟨by omega,hd,rfl,h1,roomLf m (by omega),by omega,Nat.le_refl _,by omega,Nat.le_refl _,rfl,rfl,rfl,hm,by omega,hA',hB,by rw[hap,hq];rfl,trivial⟩ (i5E H hH a B m d ty2 ) rfl fun g=> ?_
  rw[nil4]
  refine aI.nil ?_
  show aC _ _ _ _ _ _ _
  exact Runs.aG aj mixed [0] (dE H hH a B m d ty2 g) trivial (iR H hH a B m d ty2) rfl fun g=>aF.ret (zr g _) rfl
 | false=>
  have q:=aZ H hH a B m d ty2
  rw[dB,aM] at q
  refine Runs.of_outNP aj mixed 3 [0] q ⟨by omega,hd,rfl,hm,hB,by omega,hq,trivial⟩ (i3Z H hH a B m d ty2 ) (by kernel_rfl) fun g=> ?_
  rw[suf_3]
  refine Runs.seq (Runs.region ?_)
  have q:=bZ H hH a B m d ty2 g
  refine aI.aG aj 2 [0,1] q trivial (i4Z H hH a B m d ty2 ) rfl fun g=> ?_
  have q:=cZ H hH a B m d ty2 g
  rw[dB,dB,aM,hE0] at q
  refine aI.aG aj 8 [0] q ⟨by omega,hd,rfl,h1,roomLf m (by omega),by omega,Nat.le_refl _,by omega,Nat.le_refl _,rfl,rfl,rfl,hm,by omega,hA',hB,by rw[hap,hq];rfl,st_nil H _,trivial⟩ (i5Z H hH a B m d ty2 ) rfl fun g=> ?_
  rw[nil4]
  refine aI.nil ?_
  show aC _ _ _ _ _ _ _
  exact Runs.aG aj mixed [0] (dZ H hH a B m d ty2 g) trivial (iR H hH a B m d ty2) rfl fun g=>aF.ret (zr g _) rfl
end
end np
namespace nz
section
variable (H:Nd→Nd→B32)
def m0 (hH:H=hV) (a:Option Addr) (B:List Lf) (m d:Nat) (ty2:TypeId):List Blk:=[⟨false,ty2,.prv (lvals B)⟩]
theorem iR (hH:H=hV) (a:Option Addr) (B:List Lf) (m d:Nat) (ty2:TypeId):ay (m0 H hH a B m d ty2 ).length (MR) (m0 H hH a B m d ty2 )=true:=by kernel_rfl
def m3Z (hH:H=hV) (a:Option Addr) (B:List Lf) (m d:Nat) (ty2:TypeId):List Blk:=[⟨false,ty2,.prv (lvals B)⟩]
def M3Z (hH:H=hV) (a:Option Addr) (B:List Lf) (m d:Nat) (ty2:TypeId):List (Option SV):=aA 33 0 [(0,.o (.a (.v (.slice a 0 0)))),(1,.o (.a (.sld 0 0 0 m d))),(5,.o (.a (.v (.slice none 0 0)))),(6,.o (.a (int1 .i64 0)))]
theorem i3Z (hH:H=hV) (a:Option Addr) (B:List Lf) (m d:Nat) (ty2:TypeId):ay (m3Z H hH a B m d ty2 ).length (M3Z H hH a B m d ty2 ) (m3Z H hH a B m d ty2 )=true:=by kernel_rfl
def m4Z (hH:H=hV) (a:Option Addr) (B:List Lf) (m d:Nat) (ty2:TypeId):List Blk:=[⟨false,ty2,.prv (lvals B)⟩,⟨true,30,.lit []⟩]
def M4Z (hH:H=hV) (a:Option Addr) (B:List Lf) (m d:Nat) (ty2:TypeId):List (Option SV):=aA 33 0 [(1,.o (.a (.sld 0 0 0 m d))),(5,.o (.a (.v (.slice none 0 0)))),(6,.o (.a (int1 .i64 0))),(19,.o (.a (.slc 1 0 0 0)))]
theorem i4Z (hH:H=hV) (a:Option Addr) (B:List Lf) (m d:Nat) (ty2:TypeId):ay (m4Z H hH a B m d ty2 ).length (M4Z H hH a B m d ty2 ) (m4Z H hH a B m d ty2 )=true:=by kernel_rfl
def m5Z (hH:H=hV) (a:Option Addr) (B:List Lf) (m d:Nat) (ty2:TypeId):List Blk:=[⟨false,ty2,.prv (lvals B)⟩]
def M5Z (hH:H=hV) (a:Option Addr) (B:List Lf) (m d:Nat) (ty2:TypeId):List (Option SV):=aA 33 0 [(5,.o (.a (.v (.slice none 0 0)))),(6,.o (.a (int1 .i64 0))),(7,.o (.a (.v (.slice none 0 0)))),(8,.o (.a (int1 .i64 0)))]
theorem i5Z (hH:H=hV) (a:Option Addr) (B:List Lf) (m d:Nat) (ty2:TypeId):ay (m5Z H hH a B m d ty2 ).length (M5Z H hH a B m d ty2 ) (m5Z H hH a B m d ty2 )=true:=by kernel_rfl
theorem aZ (hH:H=hV) (a:Option Addr) (B:List Lf) (m d:Nat) (ty2:TypeId):outN [0] (M3Z H hH a B m d ty2 ) (exec (Γ3Z H hH) tys 100 (cpre 3 body) ⟨aH fn [.o (.a (.v (.slice a 0 0))),.o (.a (.sld 0 0 0 m d))],m0 H hH a B m d ty2 ,[]⟩)=some (.normal,(live (M3Z H hH a B m d ty2 )).map (SV.ren (piF [0])),(M3Z H hH a B m d ty2 ).length,(m3Z H hH a B m d ty2 ).map (fun b=>some (b.ren (piF [0]))),[0+0+m*64≤(lvals B).length,m≤d,((lvals B).drop (0+0)).take (m*64)=lvals (ak (((lvals B).drop (0+0)).take (m*64))),(ak (((lvals B).drop (0+0)).take (m*64))).length=m,AllL (ak (((lvals B).drop (0+0)).take (m*64))),m≤4000000,rndD (([]:List Lf)++(ak (((lvals B).drop (0+0)).take (m*64)))) (([]:List Lf)++(ak (((lvals B).drop (0+0)).take (m*64)))).length=false]):=by kernel_rfl
theorem bZ (hH:H=hV) (a:Option Addr) (B:List Lf) (m d:Nat) (ty2:TypeId) (g:Nat→SV):bf [0,1] (M4Z H hH a B m d ty2 ) (aR ΓaZ tys (opsOf R4).toList (((opsOf R4).toList.drop 0).take 2) ⟨fill g 0 (M3Z H hH a B m d ty2 ),m3Z H hH a B m d ty2 ,[]⟩)=some ((live (M4Z H hH a B m d ty2 )).map (SV.ren (piF [0,1])),(M4Z H hH a B m d ty2 ).length,(m4Z H hH a B m d ty2 ).map (fun b=>some (b.ren (piF [0,1]))),[]):=by kernel_rfl
theorem cZ (hH:H=hV) (a:Option Addr) (B:List Lf) (m d:Nat) (ty2:TypeId) (g:Nat→SV):bf [0] (M5Z H hH a B m d ty2 ) (aR (ΓbZZ H hH) tys (opsOf R4).toList (((opsOf R4).toList.drop 2).take 8) ⟨fill g 0 (M4Z H hH a B m d ty2 ),m4Z H hH a B m d ty2 ,[]⟩)=some ((live (M5Z H hH a B m d ty2 )).map (SV.ren (piF [0])),(M5Z H hH a B m d ty2 ).length,(m5Z H hH a B m d ty2 ).map (fun b=>some (b.ren (piF [0]))),[0+0+m*64≤(lvals B).length,m≤d,64=64,m=0,0+0+0*64≤0,0≤0,0+0+0*64≤0,0≤0,(([]:List Value).drop (0+0)).take (0*64)=lvals (ak ((([]:List Value).drop (0+0)).take (0*64))),(ak ((([]:List Value).drop (0+0)).take (0*64))).length=0,(([]:List Value).drop (0+0)).take (0*64)=lvals (ak ((([]:List Value).drop (0+0)).take (0*64))),(ak ((([]:List Value).drop (0+0)).take (0*64))).length=0,0+0≤4000000,AllL (ak ((([]:List Value).drop (0+0)).take (0*64))),AllL (ak ((([]:List Value).drop (0+0)).take (0*64))),aK (tndV (ak ((([]:List Value).drop (0+0)).take (0*64))++ak ((([]:List Value).drop (0+0)).take (0*64))))=true,(stT H (ak ((([]:List Value).drop (0+0)).take (0*64))) (ak ((([]:List Value).drop (0+0)).take (0*64))))=[]]):=by kernel_rfl
theorem dZ (hH:H=hV) (a:Option Addr) (B:List Lf) (m d:Nat) (ty2:TypeId) (g:Nat→SV):outN [0] (MR) (exec Γ5 tys 100 D ⟨fill g 0 (M5Z H hH a B m d ty2 ),m5Z H hH a B m d ty2 ,[]⟩)=some (.ret,(live (MR)).map (SV.ren (piF [0])),(MR).length,(m0 H hH a B m d ty2 ).map (fun b=>some (b.ren (piF [0]))),[]):=by kernel_rfl
theorem run (hH:H=hV) (a:Option Addr) (B:List Lf) (m d:Nat) (ty2:TypeId) (hm:B.length=m) (hd:m≤d) (hB:AllL B) (hb:m≤4000000) (h1:m=0):aC Tryd.prog GT 1 body (aH fn [.o (.a (.v (.slice a 0 0))),.o (.a (.sld 0 0 0 m d))]) [⟨false,ty2,.prv (lvals B)⟩] (aF tys fn (aW (aL.enc true) .none)):=by
 subst h1
 obtain rfl:=List.eq_nil_of_length_eq_zero hm
 have hA':AllL ([]:List Lf):=AllL.nil
 have hB':AllL ([]:List Lf):=AllL.nil
 have dB:((lvals []).drop (0+0)).take (0*64)=lvals []:=rfl
 have hE0:ak ((([]:List Value).drop (0+0)).take (0*64))=[]:=lope.lfDec0
 have hX:AllL (([]:List Lf)++[]):=AllL.app hA' hB'
 have hap:=ap_of hX
 have hap:aK (tndV (([]:List Lf)++([]:List Lf)))=true:=hap.trans rfl
 have q:=aZ H hH a [] 0 d ty2
 rw[dB,aM] at q
 refine Runs.of_outNP aj mixed 3 [0] q ⟨Nat.zero_le _,hd,rfl,hm,hB',by omega,rfl,trivial⟩ (i3Z H hH a [] 0 d ty2 ) (by kernel_rfl) fun g=> ?_
 rw[suf_3]
 refine Runs.seq (Runs.region ?_)
 have q:=bZ H hH a [] 0 d ty2 g
 refine aI.aG aj 2 [0,1] q trivial (i4Z H hH a [] 0 d ty2 ) rfl fun g=> ?_
 have q:=cZ H hH a [] 0 d ty2 g
 rw[hE0] at q
 refine aI.aG aj 8 [0] q ⟨Nat.zero_le _,hd,rfl,rfl,by omega,Nat.le_refl _,by omega,Nat.le_refl _,rfl,rfl,rfl,rfl,by omega,hA',hB',hap,st_nil H _,trivial⟩ (i5Z H hH a [] 0 d ty2 ) rfl fun g=> ?_
 rw[nil4]
 refine aI.nil ?_
 show aC _ _ _ _ _ _ _
 exact Runs.aG aj mixed [0] (dZ H hH a [] 0 d ty2 g) trivial (iR H hH a [] 0 d ty2) rfl fun g=>aF.ret (zr g _) rfl
end
end nz
namespace nn
section
variable (H:Nd→Nd→B32)
def m0 (hH:H=hV) (a:Option Addr) (b:Option Addr):List Blk:=[]
theorem iR (hH:H=hV) (a:Option Addr) (b:Option Addr):ay (m0 H hH a b ).length (MR) (m0 H hH a b )=true:=by kernel_rfl
def m3Z (hH:H=hV) (a:Option Addr) (b:Option Addr):List Blk:=[]
def M3Z (hH:H=hV) (a:Option Addr) (b:Option Addr):List (Option SV):=aA 33 0 [(0,.o (.a (.v (.slice a 0 0)))),(1,.o (.a (.v (.slice b 0 0)))),(5,.o (.a (.v (.slice none 0 0)))),(6,.o (.a (int1 .i64 0)))]
theorem i3Z (hH:H=hV) (a:Option Addr) (b:Option Addr):ay (m3Z H hH a b ).length (M3Z H hH a b ) (m3Z H hH a b )=true:=by kernel_rfl
def m4Z (hH:H=hV) (a:Option Addr) (b:Option Addr):List Blk:=[⟨true,30,.lit []⟩]
def M4Z (hH:H=hV) (a:Option Addr) (b:Option Addr):List (Option SV):=aA 33 0 [(1,.o (.a (.v (.slice b 0 0)))),(5,.o (.a (.v (.slice none 0 0)))),(6,.o (.a (int1 .i64 0))),(19,.o (.a (.slc 0 0 0 0)))]
theorem i4Z (hH:H=hV) (a:Option Addr) (b:Option Addr):ay (m4Z H hH a b ).length (M4Z H hH a b ) (m4Z H hH a b )=true:=by kernel_rfl
def m5Z (hH:H=hV) (a:Option Addr) (b:Option Addr):List Blk:=[]
def M5Z (hH:H=hV) (a:Option Addr) (b:Option Addr):List (Option SV):=aA 33 0 [(5,.o (.a (.v (.slice none 0 0)))),(6,.o (.a (int1 .i64 0))),(7,.o (.a (.v (.slice none 0 0)))),(8,.o (.a (int1 .i64 0)))]
theorem i5Z (hH:H=hV) (a:Option Addr) (b:Option Addr):ay (m5Z H hH a b ).length (M5Z H hH a b ) (m5Z H hH a b )=true:=by kernel_rfl
theorem aZ (hH:H=hV) (a:Option Addr) (b:Option Addr):outN [] (M3Z H hH a b ) (exec (Γ3Z H hH) tys 100 (cpre 3 body) ⟨aH fn [.o (.a (.v (.slice a 0 0))),.o (.a (.v (.slice b 0 0)))],m0 H hH a b ,[]⟩)=some (.normal,(live (M3Z H hH a b )).map (SV.ren (piF [])),(M3Z H hH a b ).length,(m3Z H hH a b ).map (fun b=>some (b.ren (piF []))),[]):=by kernel_rfl
theorem bZ (hH:H=hV) (a:Option Addr) (b:Option Addr) (g:Nat→SV):bf [0] (M4Z H hH a b ) (aR ΓaZ tys (opsOf R4).toList (((opsOf R4).toList.drop 0).take 2) ⟨fill g 0 (M3Z H hH a b ),m3Z H hH a b ,[]⟩)=some ((live (M4Z H hH a b )).map (SV.ren (piF [0])),(M4Z H hH a b ).length,(m4Z H hH a b ).map (fun b=>some (b.ren (piF [0]))),[]):=by kernel_rfl
theorem cZ (hH:H=hV) (a:Option Addr) (b:Option Addr) (g:Nat→SV):bf [] (M5Z H hH a b ) (aR (ΓbZZ H hH) tys (opsOf R4).toList (((opsOf R4).toList.drop 2).take 8) ⟨fill g 0 (M4Z H hH a b ),m4Z H hH a b ,[]⟩)=some ((live (M5Z H hH a b )).map (SV.ren (piF [])),(M5Z H hH a b ).length,(m5Z H hH a b ).map (fun b=>some (b.ren (piF []))),[0+0+0*64≤0,0≤0,0+0+0*64≤0,0≤0,(([]:List Value).drop (0+0)).take (0*64)=lvals (ak ((([]:List Value).drop (0+0)).take (0*64))),(ak ((([]:List Value).drop (0+0)).take (0*64))).length=0,(([]:List Value).drop (0+0)).take (0*64)=lvals (ak ((([]:List Value).drop (0+0)).take (0*64))),(ak ((([]:List Value).drop (0+0)).take (0*64))).length=0,0+0≤4000000,AllL (ak ((([]:List Value).drop (0+0)).take (0*64))),AllL (ak ((([]:List Value).drop (0+0)).take (0*64))),aK (tndV (ak ((([]:List Value).drop (0+0)).take (0*64))++ak ((([]:List Value).drop (0+0)).take (0*64))))=true,(stT H (ak ((([]:List Value).drop (0+0)).take (0*64))) (ak ((([]:List Value).drop (0+0)).take (0*64))))=[]]):=by kernel_rfl
theorem dZ (hH:H=hV) (a:Option Addr) (b:Option Addr) (g:Nat→SV):outN [] (MR) (exec Γ5 tys 100 D ⟨fill g 0 (M5Z H hH a b ),m5Z H hH a b ,[]⟩)=some (.ret,(live (MR)).map (SV.ren (piF [])),(MR).length,(m0 H hH a b ).map (fun b=>some (b.ren (piF []))),[]):=by kernel_rfl
theorem run (hH:H=hV) (a:Option Addr) (b:Option Addr):aC Tryd.prog GT 0 body (aH fn [.o (.a (.v (.slice a 0 0))),.o (.a (.v (.slice b 0 0)))]) [] (aF tys fn (aW (aL.enc true) .none)):=by
 have hA':AllL ([]:List Lf):=AllL.nil
 have hB':AllL ([]:List Lf):=AllL.nil
 have hE0:ak ((([]:List Value).drop (0+0)).take (0*64))=[]:=lope.lfDec0
 have hX:AllL (([]:List Lf)++[]):=AllL.app hA' hB'
 have hap:=ap_of hX
 have hap:aK (tndV (([]:List Lf)++([]:List Lf)))=true:=hap.trans rfl
 have q:=aZ H hH a b
 refine Runs.of_outNP aj mixed 3 [] q trivial (i3Z H hH a b ) (by kernel_rfl) fun g=> ?_
 rw[suf_3]
 refine Runs.seq (Runs.region ?_)
 have q:=bZ H hH a b g
 refine aI.aG aj 2 [0] q trivial (i4Z H hH a b ) rfl fun g=> ?_
 have q:=cZ H hH a b g
 rw[hE0] at q
 refine aI.aG aj 8 [] q ⟨by omega,Nat.le_refl _,by omega,Nat.le_refl _,rfl,rfl,rfl,rfl,by omega,hA',hB',hap,st_nil H _,trivial⟩ (i5Z H hH a b ) rfl fun g=> ?_
 rw[nil4]
 refine aI.nil ?_
 show aC _ _ _ _ _ _ _
 exact Runs.aG aj mixed [] (dZ H hH a b g) trivial (iR H hH a b) rfl fun g=>aF.ret (zr g _) rfl
end
end nn
end lgst
end Go.Proofs.YtdccehmekkcheaaDoor
