/- Package grow: Check: walk, contract. -/
import Derived.Test.YtdccehmekkcheaaDoorKGsP
namespace Go.Proofs.YtdccehmekkcheaaDoor
open Go Go.Eng Go.RowKit
set_option linter.unusedVariables false
set_option linter.unusedSimpArgs false
set_option maxRecDepth 100000
def chkV (x y:B32 × Int) (s t:B32):Int:=bif x.2==0&&y.2==0 then (bif eqL x.1.to s.to&&eqL y.1.to t.to then 0 else 3) else 1
noncomputable def chkT (H:Nd→Nd→B32) (E:B32) (S:Nd→B32) (s t:B32) (V:List Nd) (B:List Lf):Int:=chkV (aH H E S V) (aH H E S (bf (V++tndV B))) s t
theorem root_01 (H:Nd→Nd→B32) (E:B32) (S:Nd→B32) (l:List Nd):(aH H E S l).2=0∨(aH H E S l).2=1:=by
 unfold aH
 cases aM l with
 | true=>left;rw[cond_true];cases Nat.beq l.length 0<;>rfl
 | false=>right;rfl
theorem aB.app {A B:List Nd} (hA:aB A) (hB:aB B):aB (A++B):=fun z hz=>(List.mem_append.1 hz).elim (hA z) (hB z)
theorem aB.sort {A:List Nd} (hA:aB A):aB (bf A):=fun z hz=>hA z ((sortL_perm A).mem_iff.1 hz)
theorem aB.nil:aB []:=fun z hz=>by cases hz
namespace gck
noncomputable abbrev fn:=Tryd.f46
noncomputable def body:Code:=bF fn
noncomputable def R1:Code:=cs1 (csuf 1 body)
noncomputable def S2:Code:=csuf 2 body
noncomputable def T:Code:=csuf 3 S2
noncomputable def i1:Nat:=match R1 with | .region i _ _=>i | _=>0
theorem suf_1:csuf 1 body= .seq (.region i1 (opsOf R1) false) S2:=by kernel_rfl
theorem nil1:((opsOf R1).toList.drop 2).drop 4=[]:=by kernel_rfl
theorem nil0:(opsOf R1).toList.drop 6=[]:=by kernel_rfl
noncomputable def Γ1:Cons Tryd.prog GT:=[tnd.con]
noncomputable def Γ2 (H:Nd→Nd→B32) (hH:H=hV) (E:B32) (hE':E=hE) (S:Nd→B32) (hS':S=hS):Cons Tryd.prog GT:=[sort_con,trt.con H hH E hE' S hS' ]
namespace pw
section
variable (H:Nd→Nd→B32)
def m0 (hH:H=hV) (E:B32) (hE':E=hE) (S:Nd→B32) (hS':S=hS) (s t:B32) (V:List Nd) (n c:Nat) (ty:TypeId) (B:List Lf) (m d:Nat) (ty2:TypeId):List Blk:=[⟨false,ty,.prv (ah V)⟩,⟨false,ty2,.prv (lvals B)⟩,⟨true,24,.lit (cB32.row s)⟩,⟨true,24,.lit (cB32.row t)⟩]
def m1 (hH:H=hV) (E:B32) (hE':E=hE) (S:Nd→B32) (hS':S=hS) (s t:B32) (V:List Nd) (n c:Nat) (ty:TypeId) (B:List Lf) (m d:Nat) (ty2:TypeId) (us:List Value) (lo:Nat) (hi:Option Nat):List Blk:=[⟨false,ty,.prv (ah V)⟩,⟨false,ty2,.prv (lvals B)⟩,⟨true,24,.lit (cB32.row s)⟩,⟨true,24,.lit (cB32.row t)⟩,⟨true,33,.grv 65 us lo hi⟩]
def mf (hH:H=hV) (E:B32) (hE':E=hE) (S:Nd→B32) (hS':S=hS) (s t:B32) (V:List Nd) (n c:Nat) (ty:TypeId) (B:List Lf) (m d:Nat) (ty2:TypeId) (x y:B32):List Blk:=[⟨false,ty,.prv (ah V)⟩,⟨false,ty2,.prv (lvals B)⟩,⟨true,24,.lit (cB32.row s)⟩,⟨true,24,.lit (cB32.row t)⟩,⟨true,24,.lit (cB32.row x)⟩,⟨true,24,.lit (cB32.row y)⟩]
def M0 (hH:H=hV) (E:B32) (hE':E=hE) (S:Nd→B32) (hS':S=hS) (s t:B32) (V:List Nd) (n c:Nat) (ty:TypeId) (B:List Lf) (m d:Nat) (ty2:TypeId):List (Option SV):=aD 47 0 [(2,.o (.a (.sld 0 0 0 n c))),(3,.o (.a (.sld 1 0 0 m d))),(4,.o (.a (.ptr 2 0))),(5,.o (.a (.ptr 3 0)))]
theorem i0 (hH:H=hV) (E:B32) (hE':E=hE) (S:Nd→B32) (hS':S=hS) (s t:B32) (V:List Nd) (n c:Nat) (ty:TypeId) (B:List Lf) (m d:Nat) (ty2:TypeId):aC (m0 H hH E hE' S hS' s t V n c ty B m d ty2 ).length (M0 H hH E hE' S hS' s t V n c ty B m d ty2 ) (m0 H hH E hE' S hS' s t V n c ty B m d ty2 )=true:=by kernel_rfl
def M2 (hH:H=hV) (E:B32) (hE':E=hE) (S:Nd→B32) (hS':S=hS) (s t:B32) (V:List Nd) (n c:Nat) (ty:TypeId) (B:List Lf) (m d:Nat) (ty2:TypeId) (k:Nat):List (Option SV):=aD 47 0 [(2,.o (.a (.sld 0 0 0 n c))),(4,.o (.a (.ptr 2 0))),(5,.o (.a (.ptr 3 0))),(9,.o (.a (.slg 4 k)))]
theorem i2 (hH:H=hV) (E:B32) (hE':E=hE) (S:Nd→B32) (hS':S=hS) (s t:B32) (V:List Nd) (n c:Nat) (ty:TypeId) (B:List Lf) (m d:Nat) (ty2:TypeId) (k:Nat) (us:List Value) (lo:Nat) (hi:Option Nat):aC (m1 H hH E hE' S hS' s t V n c ty B m d ty2 us lo hi).length (M2 H hH E hE' S hS' s t V n c ty B m d ty2 k) (m1 H hH E hE' S hS' s t V n c ty B m d ty2 us lo hi)=true:=by kernel_rfl
def M5 (hH:H=hV) (E:B32) (hE':E=hE) (S:Nd→B32) (hS':S=hS) (s t:B32) (V:List Nd) (n c:Nat) (ty:TypeId) (B:List Lf) (m d:Nat) (ty2:TypeId) (e f:Int):List (Option SV):=aD 47 0 [(4,.o (.a (.ptr 2 0))),(5,.o (.a (.ptr 3 0))),(10,.o (.a (.ptr 4 0))),(11,.o (.a (int1 .i64 e))),(12,.o (.a (.ptr 5 0))),(13,.o (.a (int1 .i64 f)))]
theorem i5 (hH:H=hV) (E:B32) (hE':E=hE) (S:Nd→B32) (hS':S=hS) (s t:B32) (V:List Nd) (n c:Nat) (ty:TypeId) (B:List Lf) (m d:Nat) (ty2:TypeId) (e f:Int) (x y:B32):aC (mf H hH E hE' S hS' s t V n c ty B m d ty2 x y).length (M5 H hH E hE' S hS' s t V n c ty B m d ty2 e f) (mf H hH E hE' S hS' s t V n c ty B m d ty2 x y)=true:=by kernel_rfl
def MR (hH:H=hV) (E:B32) (hE':E=hE) (S:Nd→B32) (hS':S=hS) (s t:B32) (V:List Nd) (n c:Nat) (ty:TypeId) (B:List Lf) (m d:Nat) (ty2:TypeId) (e:Int):List (Option SV):=aD 47 0 [(8,.o (.a (int1 .i64 e)))]
def mo (hH:H=hV) (E:B32) (hE':E=hE) (S:Nd→B32) (hS':S=hS) (s t:B32) (V:List Nd) (n c:Nat) (ty:TypeId) (B:List Lf) (m d:Nat) (ty2:TypeId):List Blk:=[⟨false,ty,.prv (ah V)⟩,⟨false,ty2,.prv (lvals B)⟩]
theorem iR (hH:H=hV) (E:B32) (hE':E=hE) (S:Nd→B32) (hS':S=hS) (s t:B32) (V:List Nd) (n c:Nat) (ty:TypeId) (B:List Lf) (m d:Nat) (ty2:TypeId) (e:Int):aC (mo H hH E hE' S hS' s t V n c ty B m d ty2 ).length (MR H hH E hE' S hS' s t V n c ty B m d ty2 e) (mo H hH E hE' S hS' s t V n c ty B m d ty2 )=true:=by kernel_rfl
theorem s0 (hH:H=hV) (E:B32) (hE':E=hE) (S:Nd→B32) (hS':S=hS) (s t:B32) (V:List Nd) (n c:Nat) (ty:TypeId) (B:List Lf) (m d:Nat) (ty2:TypeId):outX (m0 H hH E hE' S hS' s t V n c ty B m d ty2 ).length (M0 H hH E hE' S hS' s t V n c ty B m d ty2 ) (exec Γ1 tys 300 (cpre 1 body) ⟨aF fn [cB32.enc s,cB32.enc t,.o (.a (.sld 0 0 0 n c)),.o (.a (.sld 1 0 0 m d))],[⟨false,ty,.prv (ah V)⟩,⟨false,ty2,.prv (lvals B)⟩],[]⟩)=some (.normal,live (M0 H hH E hE' S hS' s t V n c ty B m d ty2 ),(M0 H hH E hE' S hS' s t V n c ty B m d ty2 ).length,m0 H hH E hE' S hS' s t V n c ty B m d ty2 ,[]):=by kernel_rfl
def MP (hH:H=hV) (E:B32) (hE':E=hE) (S:Nd→B32) (hS':S=hS) (s t:B32) (V:List Nd) (n c:Nat) (ty:TypeId) (B:List Lf) (m d:Nat) (ty2:TypeId):List (Option SV):=aD 47 0 [(2,.o (.a (.sld 0 0 0 n c))),(3,.o (.a (.sld 1 0 0 m d))),(4,.o (.a (.ptr 2 0))),(5,.o (.a (.ptr 3 0))),(15,.o (.a (.slg 4 n)))]
theorem iP (hH:H=hV) (E:B32) (hE':E=hE) (S:Nd→B32) (hS':S=hS) (s t:B32) (V:List Nd) (n c:Nat) (ty:TypeId) (B:List Lf) (m d:Nat) (ty2:TypeId) (us:List Value) (lo:Nat) (hi:Option Nat):aC (m1 H hH E hE' S hS' s t V n c ty B m d ty2 us lo hi).length (MP H hH E hE' S hS' s t V n c ty B m d ty2 ) (m1 H hH E hE' S hS' s t V n c ty B m d ty2 us lo hi)=true:=by kernel_rfl
theorem c1 (hH:H=hV) (E:B32) (hE':E=hE) (S:Nd→B32) (hS':S=hS) (s t:B32) (V:List Nd) (n c:Nat) (ty:TypeId) (B:List Lf) (m d:Nat) (ty2:TypeId) (g:Nat→SV):outNL [0,1,2,3,4] (MP H hH E hE' S hS' s t V n c ty B m d ty2 ) (bI Γ1 tys (opsOf R1).toList (((opsOf R1).toList.drop 0).take 2) ⟨fill g 0 (M0 H hH E hE' S hS' s t V n c ty B m d ty2 ),m0 H hH E hE' S hS' s t V n c ty B m d ty2 ,[]⟩)=some ((live (MP H hH E hE' S hS' s t V n c ty B m d ty2 )).map (SV.ren (piF [0,1,2,3,4])),(MP H hH E hE' S hS' s t V n c ty B m d ty2 ).length,(m1 H hH E hE' S hS' s t V n c ty B m d ty2 (((ah V).drop (0+0)).take (n*65)) n none).map (fun b=>some (b.ren (piF [0,1,2,3,4]))),[0+0+n*65≤(ah V).length,0<n,Room Tryd.prog 33 n]):=by kernel_rfl
end
theorem g (H:Nd→Nd→B32) (hH:H=hV) (E:B32) (hE':E=hE) (S:Nd→B32) (hS':S=hS) (s t:B32) (V:List Nd) (n c:Nat) (ty:TypeId) (B:List Lf) (m d:Nat) (ty2:TypeId) (us:List Value) (g:Nat→SV):outNL [0,1,2,3,4] (M2 H hH E hE' S hS' s t V n c ty B m d ty2 (n+m)) (bI Γ1 tys (opsOf R1).toList (((opsOf R1).toList.drop 2).take 4) ⟨fill g 0 (MP H hH E hE' S hS' s t V n c ty B m d ty2 ),m1 H hH E hE' S hS' s t V n c ty B m d ty2 us (n+m) none,[(18,[.dyn])]⟩)=some ((live (M2 H hH E hE' S hS' s t V n c ty B m d ty2 (n+m))).map (SV.ren (piF [0,1,2,3,4])),(M2 H hH E hE' S hS' s t V n c ty B m d ty2 (n+m)).length,(m1 H hH E hE' S hS' s t V n c ty B m d ty2 (us++((ah (tndV (au (((lvals B).drop (0+0)).take (m*64))))).drop (0+0)).take (m*65)) (n+m) none).map (fun b=>some (b.ren (piF [0,1,2,3,4]))),[0+0+m*64≤(lvals B).length,m≤d,((lvals B).drop (0+0)).take (m*64)=lvals (au (((lvals B).drop (0+0)).take (m*64))),(au (((lvals B).drop (0+0)).take (m*64))).length=m,m≤4000000,AllL (au (((lvals B).drop (0+0)).take (m*64))),0+0+m*65≤(ah (tndV (au (((lvals B).drop (0+0)).take (m*64))))).length,n*65=us.length,n+m≤n+m,∀v∈((ah (tndV (au (((lvals B).drop (0+0)).take (m*64))))).drop (0+0)).take (m*65),v.oneCell'=true]):=by kernel_rfl
theorem r (H:Nd→Nd→B32) (hH:H=hV) (E:B32) (hE':E=hE) (S:Nd→B32) (hS':S=hS) (s t:B32) (V:List Nd) (n c:Nat) (ty:TypeId) (B:List Lf) (m d:Nat) (ty2:TypeId) (us:List Value) (lo:Nat) (g:Nat→SV):outNL [0,1,2,3,6] (M2 H hH E hE' S hS' s t V n c ty B m d ty2 (n+m)) (bI Γ1 tys (opsOf R1).toList (((opsOf R1).toList.drop 2).take 4) ⟨fill g 0 (MP H hH E hE' S hS' s t V n c ty B m d ty2 ),m1 H hH E hE' S hS' s t V n c ty B m d ty2 us lo (some (n+m)),[(18,[.dyn])]⟩)=some ((live (M2 H hH E hE' S hS' s t V n c ty B m d ty2 (n+m))).map (SV.ren (piF [0,1,2,3,6])),(M2 H hH E hE' S hS' s t V n c ty B m d ty2 (n+m)).length,(m1 H hH E hE' S hS' s t V n c ty B m d ty2 (us++((ah (tndV (au (((lvals B).drop (0+0)).take (m*64))))).drop (0+0)).take (m*65)) (n+m) none).map (fun b=>some (b.ren (piF [0,1,2,3,6]))),[0+0+m*64≤(lvals B).length,m≤d,((lvals B).drop (0+0)).take (m*64)=lvals (au (((lvals B).drop (0+0)).take (m*64))),(au (((lvals B).drop (0+0)).take (m*64))).length=m,m≤4000000,AllL (au (((lvals B).drop (0+0)).take (m*64))),0+0+m*65≤(ah (tndV (au (((lvals B).drop (0+0)).take (m*64))))).length,n*65=us.length,n+m≤n+m,Room Tryd.prog 33 (n+m)]):=by kernel_rfl
theorem b (H:Nd→Nd→B32) (hH:H=hV) (E:B32) (hE':E=hE) (S:Nd→B32) (hS':S=hS) (s t:B32) (V:List Nd) (n c:Nat) (ty:TypeId) (B:List Lf) (m d:Nat) (ty2:TypeId) (vs:List Value) (k:Nat) (x:B32) (e:Int) (y:B32) (f:Int) (g:Nat→SV):outN [0,1,2,3,5,6] (M5 H hH E hE' S hS' s t V n c ty B m d ty2 e f) (exec (Γ2 H hH E hE' S hS' ) tys 100 (cpre 3 S2) ⟨fill g 0 (M2 H hH E hE' S hS' s t V n c ty B m d ty2 k),m1 H hH E hE' S hS' s t V n c ty B m d ty2 vs k none,[(23,[.s (hsS (x,e))]),(28,[.s (hsS (y,f))])]⟩)=some (.normal,(live (M5 H hH E hE' S hS' s t V n c ty B m d ty2 e f)).map (SV.ren (piF [0,1,2,3,5,6])),(M5 H hH E hE' S hS' s t V n c ty B m d ty2 e f).length,(mf H hH E hE' S hS' s t V n c ty B m d ty2 x y).map (fun b=>some (b.ren (piF [0,1,2,3,5,6]))),[65=65,vs=ah (aj vs),(aj vs).length=k,k<4611686018427387904,0+0+n*65≤(ah V).length,n≤c,((ah V).drop (0+0)).take (n*65)=ah (aj (((ah V).drop (0+0)).take (n*65))),(aj (((ah V).drop (0+0)).take (n*65))).length=n,n<aI,aB (aj (((ah V).drop (0+0)).take (n*65))),hsS (aH H E S (aj (((ah V).drop (0+0)).take (n*65))))=hsS (x,e),0+0+k*65≤(ah (bf (aj vs))).length,k≤k,((ah (bf (aj vs))).drop (0+0)).take (k*65)=ah (aj (((ah (bf (aj vs))).drop (0+0)).take (k*65))),(aj (((ah (bf (aj vs))).drop (0+0)).take (k*65))).length=k,k<aI,aB (aj (((ah (bf (aj vs))).drop (0+0)).take (k*65))),hsS (aH H E S (aj (((ah (bf (aj vs))).drop (0+0)).take (k*65))))=hsS (y,f)]):=by kernel_rfl
section
variable (H:Nd→Nd→B32) (hH:H=hV) (E:B32) (hE':E=hE) (S:Nd→B32) (hS':S=hS) (s t:B32) (V:List Nd) (n c:Nat) (ty:TypeId) (B:List Lf) (m d:Nat) (ty2:TypeId)
theorem t1 (x y:B32) (f:Int) (g:Nat→SV):outX (mo H hH E hE' S hS' s t V n c ty B m d ty2 ).length (MR H hH E hE' S hS' s t V n c ty B m d ty2 1) (exec Γ1 tys 300 T ⟨fill g 0 (M5 H hH E hE' S hS' s t V n c ty B m d ty2 1 f),mf H hH E hE' S hS' s t V n c ty B m d ty2 x y,[]⟩)=some (.ret,live (MR H hH E hE' S hS' s t V n c ty B m d ty2 1),(MR H hH E hE' S hS' s t V n c ty B m d ty2 1).length,mo H hH E hE' S hS' s t V n c ty B m d ty2 ,[]):=by kernel_rfl
theorem t2 (x y:B32) (g:Nat→SV):outX (mo H hH E hE' S hS' s t V n c ty B m d ty2 ).length (MR H hH E hE' S hS' s t V n c ty B m d ty2 1) (exec Γ1 tys 300 T ⟨fill g 0 (M5 H hH E hE' S hS' s t V n c ty B m d ty2 0 1),mf H hH E hE' S hS' s t V n c ty B m d ty2 x y,[]⟩)=some (.ret,live (MR H hH E hE' S hS' s t V n c ty B m d ty2 1),(MR H hH E hE' S hS' s t V n c ty B m d ty2 1).length,mo H hH E hE' S hS' s t V n c ty B m d ty2 ,[]):=by kernel_rfl
theorem t3 (x y:B32) (g:Nat→SV):outX (mo H hH E hE' S hS' s t V n c ty B m d ty2 ).length (MR H hH E hE' S hS' s t V n c ty B m d ty2 3) (exec Γ1 tys 300 T ⟨fill g 0 (M5 H hH E hE' S hS' s t V n c ty B m d ty2 0 0),mf H hH E hE' S hS' s t V n c ty B m d ty2 x y,[(41,[.b true])]⟩)=some (.ret,live (MR H hH E hE' S hS' s t V n c ty B m d ty2 3),(MR H hH E hE' S hS' s t V n c ty B m d ty2 3).length,mo H hH E hE' S hS' s t V n c ty B m d ty2 ,[(!eqL x.to s.to)=true]):=by kernel_rfl
theorem t4 (x y:B32) (g:Nat→SV):outX (mo H hH E hE' S hS' s t V n c ty B m d ty2 ).length (MR H hH E hE' S hS' s t V n c ty B m d ty2 3) (exec Γ1 tys 300 T ⟨fill g 0 (M5 H hH E hE' S hS' s t V n c ty B m d ty2 0 0),mf H hH E hE' S hS' s t V n c ty B m d ty2 x y,[(41,[.b false]),(45,[.b true])]⟩)=some (.ret,live (MR H hH E hE' S hS' s t V n c ty B m d ty2 3),(MR H hH E hE' S hS' s t V n c ty B m d ty2 3).length,mo H hH E hE' S hS' s t V n c ty B m d ty2 ,[(!eqL x.to s.to)=false,(!eqL y.to t.to)=true]):=by kernel_rfl
theorem t5 (x y:B32) (g:Nat→SV):outX (mo H hH E hE' S hS' s t V n c ty B m d ty2 ).length (MR H hH E hE' S hS' s t V n c ty B m d ty2 0) (exec Γ1 tys 300 T ⟨fill g 0 (M5 H hH E hE' S hS' s t V n c ty B m d ty2 0 0),mf H hH E hE' S hS' s t V n c ty B m d ty2 x y,[(41,[.b false]),(45,[.b false])]⟩)=some (.ret,live (MR H hH E hE' S hS' s t V n c ty B m d ty2 0),(MR H hH E hE' S hS' s t V n c ty B m d ty2 0).length,mo H hH E hE' S hS' s t V n c ty B m d ty2 ,[(!eqL x.to s.to)=false,(!eqL y.to t.to)=false]):=by kernel_rfl
theorem zr (e:Int) (mm:Nat→Option Blk) (g:Nat→SV):eRes tys (fill g 0 (MR H hH E hE' S hS' s t V n c ty B m d ty2 e)) mm fn.results.toList=some [.a (int1 .i64 e)]:=by kernel_rfl
theorem tail (x y:B32 × Int) (hx:x.2=0∨x.2=1) (hy:y.2=0∨y.2=1) (g:Nat→SV):aA Tryd.prog GT 2 T (fill g 0 (M5 H hH E hE' S hS' s t V n c ty B m d ty2 x.2 y.2)) (mf H hH E hE' S hS' s t V n c ty B m d ty2 x.1 y.1) (ay tys fn (aR (.o (.a (int1 .i64 (chkV x y s t)))) .none)):=by
 obtain⟨x,e⟩:=x
 obtain⟨y,f⟩:=y
 rcases hx with rfl | rfl
 ·rcases hy with rfl | rfl
  ·cases h1:eqL x.to s.to with
   | false=>
    refine Runs.av ak mixed (t3 H hH E hE' S hS' s t V n c ty B m d ty2 x y g) ⟨by rw[h1];rfl,trivial⟩ (iR H hH E hE' S hS' s t V n c ty B m d ty2 _) rfl fun g=>ay.ret (zr H hH E hE' S hS' s t V n c ty B m d ty2 _ _ g) ?_
    unfold chkV;rw[h1];rfl
   | true=>
    cases h2:eqL y.to t.to with
    | false=>
     refine Runs.av ak mixed (t4 H hH E hE' S hS' s t V n c ty B m d ty2 x y g) ⟨by rw[h1];rfl,by rw[h2];rfl,trivial⟩ (iR H hH E hE' S hS' s t V n c ty B m d ty2 _) rfl fun g=>ay.ret (zr H hH E hE' S hS' s t V n c ty B m d ty2 _ _ g) ?_
     unfold chkV;rw[h1,h2];rfl
    | true=>
     refine Runs.av ak mixed (t5 H hH E hE' S hS' s t V n c ty B m d ty2 x y g) ⟨by rw[h1];rfl,by rw[h2];rfl,trivial⟩ (iR H hH E hE' S hS' s t V n c ty B m d ty2 _) rfl fun g=>ay.ret (zr H hH E hE' S hS' s t V n c ty B m d ty2 _ _ g) ?_
     unfold chkV;rw[h1,h2];rfl
  ·exact Runs.av ak mixed (t2 H hH E hE' S hS' s t V n c ty B m d ty2 x y g) trivial (iR H hH E hE' S hS' s t V n c ty B m d ty2 _) rfl fun g=>ay.ret (zr H hH E hE' S hS' s t V n c ty B m d ty2 _ _ g) rfl
 ·exact Runs.av ak mixed (t1 H hH E hE' S hS' s t V n c ty B m d ty2 x y f g) trivial (iR H hH E hE' S hS' s t V n c ty B m d ty2 _) rfl fun g=>ay.ret (zr H hH E hE' S hS' s t V n c ty B m d ty2 _ _ g) rfl
theorem back (hn:V.length=n) (hc:n≤c) (hV':aB V) (hm:B.length=m) (hd:m≤d) (hB:AllL B) (hb:n+m≤4000000) (h0:0<n) (U:List Nd) (k:Nat) (hk':aB U) (hk2:U.length=k) (hk3:k≤4000000) (g:Nat→SV):aA Tryd.prog GT 2 S2 (fill g 0 (M2 H hH E hE' S hS' s t V n c ty B m d ty2 k)) (m1 H hH E hE' S hS' s t V n c ty B m d ty2 (ah U) k none) (ay tys fn (aR (.o (.a (int1 .i64 (chkV (aH H E S V) (aH H E S (bf U)) s t)))) .none)):=by
 have dN:((ah V).drop (0+0)).take (n*65)=ah V:=dtn hn
 have ln:(ah V).length=n*65:=by rw[←hn];exact aL V
 have dB:((lvals B).drop (0+0)).take (m*64)=lvals B:=dtl hm
 have lb:(lvals B).length=m*64:=by rw[←hm];exact bP B
 have lt:(tndV B).length=m:=by rw[tnd_len,hm]
 have lz:(ah (tndV B)).length=m*65:=by rw[aL,lt]
 have dT:((ah (tndV B)).drop (0+0)).take (m*65)=ah (tndV B):=dtn lt
 have hk:=tnd_ok hB
 have ls:(bf U).length=k:=by rw[sortL_len,hk2]
 have dS:((ah (bf U)).drop (0+0)).take (k*65)=ah (bf U):=dtn ls
 have q:=b H hH E hE' S hS' s t V n c ty B m d ty2 (ah U) k (aH H E S V).1 (aH H E S V).2 (aH H E S (bf U)).1 (aH H E S (bf U)).2 g
 rw[aK,dS,aK,dN,aK] at q
 refine Runs.of_outNP ak mixed 3 [0,1,2,3,5,6] q ⟨rfl,rfl,hk2,by omega,by omega,hc,rfl,hn,by unfold aI;omega,hV',rfl,by rw[aL,ls];omega,Nat.le_refl _,rfl,ls,by unfold aI;omega,hk'.sort,rfl,trivial⟩ (i5 H hH E hE' S hS' s t V n c ty B m d ty2 _ _ _ _) (by kernel_rfl) fun g=> ?_
 exact tail H hH E hE' S hS' s t V n c ty B m d ty2 _ _ (root_01 H E S _) (root_01 H E S _) g
end
theorem run (H:Nd→Nd→B32) (hH:H=hV) (E:B32) (hE':E=hE) (S:Nd→B32) (hS':S=hS) (s t:B32) (V:List Nd) (n c:Nat) (ty:TypeId) (B:List Lf) (m d:Nat) (ty2:TypeId) (hn:V.length=n) (hc:n≤c) (hV':aB V) (hm:B.length=m) (hd:m≤d) (hB:AllL B) (hb:n+m≤4000000) (h0:0<n):aA Tryd.prog GT 2 body (aF fn [cB32.enc s,cB32.enc t,.o (.a (.sld 0 0 0 n c)),.o (.a (.sld 1 0 0 m d))]) [⟨false,ty,.prv (ah V)⟩,⟨false,ty2,.prv (lvals B)⟩] (ay tys fn (aR (.o (.a (int1 .i64 (chkT H E S s t V B)))) .none)):=by
 have dN:((ah V).drop (0+0)).take (n*65)=ah V:=dtn hn
 have ln:(ah V).length=n*65:=by rw[←hn];exact aL V
 have dB:((lvals B).drop (0+0)).take (m*64)=lvals B:=dtl hm
 have lb:(lvals B).length=m*64:=by rw[←hm];exact bP B
 have lt:(tndV B).length=m:=by rw[tnd_len,hm]
 have lz:(ah (tndV B)).length=m*65:=by rw[aL,lt]
 have dT:((ah (tndV B)).drop (0+0)).take (m*65)=ah (tndV B):=dtn lt
 have hk:=tnd_ok hB
 refine Runs.bC ak mixed 1 (s0 H hH E hE' S hS' s t V n c ty B m d ty2) trivial (i0 H hH E hE' S hS' s t V n c ty B m d ty2) rfl fun g=> ?_
 rw[suf_1]
 refine Runs.seq (Runs.region ?_)
 unfold chkT
 refine aV.aN ak 2 [0,1,2,3,4] (c1 H hH E hE' S hS' s t V n c ty B m d ty2 g) ⟨by omega,h0,roomN n (by omega),trivial⟩ (iP H hH E hE' S hS' s t V n c ty B m d ty2 _ _ _) rfl fun g'=> ?_
 rw[dN]
 refine aV.roomV 4 (n+m) (own:=true) (ty:=33) (s:=65) (vs:=ah V) (lo:=n) rfl ?_ ?_
 ·have q:=pw.g H hH E hE' S hS' s t V n c ty B m d ty2 (ah V) g'
  rw[dB,bG,dT] at q
  refine aV.aN ak 4 [0,1,2,3,4] q ⟨by omega,hd,rfl,hm,by omega,hB,by omega,by omega,Nat.le_refl _,oneVs _,trivial⟩ (i2 H hH E hE' S hS' s t V n c ty B m d ty2 _ _ _ _) rfl fun g=> ?_
  rw[nil1,←nvals_app]
  exact aV.nil (back H hH E hE' S hS' s t V n c ty B m d ty2 hn hc hV' hm hd hB hb h0 (V++tndV B) (n+m) (hV'.app hk) (by rw[List.length_append,hn,lt]) hb g)
 ·have q:=pw.r H hH E hE' S hS' s t V n c ty B m d ty2 (ah V) n g'
  rw[dB,bG,dT] at q
  refine aV.aN ak 4 [0,1,2,3,6] q ⟨by omega,hd,rfl,hm,by omega,hB,by omega,by omega,Nat.le_refl _,roomN _ hb,trivial⟩ (i2 H hH E hE' S hS' s t V n c ty B m d ty2 _ _ _ _) rfl fun g=> ?_
  rw[nil1,←nvals_app]
  exact aV.nil (back H hH E hE' S hS' s t V n c ty B m d ty2 hn hc hV' hm hd hB hb h0 (V++tndV B) (n+m) (hV'.app hk) (by rw[List.length_append,hn,lt]) hb g)
end pw
namespace zw
section
variable (H:Nd→Nd→B32)
def m0 (hH:H=hV) (E:B32) (hE':E=hE) (S:Nd→B32) (hS':S=hS) (s t:B32) (V:List Nd) (n c:Nat) (ty:TypeId) (B:List Lf) (m d:Nat) (ty2:TypeId):List Blk:=[⟨false,ty,.prv (ah V)⟩,⟨false,ty2,.prv (lvals B)⟩,⟨true,24,.lit (cB32.row s)⟩,⟨true,24,.lit (cB32.row t)⟩]
def m1 (hH:H=hV) (E:B32) (hE':E=hE) (S:Nd→B32) (hS':S=hS) (s t:B32) (V:List Nd) (n c:Nat) (ty:TypeId) (B:List Lf) (m d:Nat) (ty2:TypeId) (us:List Value) (lo:Nat) (hi:Option Nat):List Blk:=[⟨false,ty,.prv (ah V)⟩,⟨false,ty2,.prv (lvals B)⟩,⟨true,24,.lit (cB32.row s)⟩,⟨true,24,.lit (cB32.row t)⟩,⟨true,33,.grv 65 us lo hi⟩]
def mf (hH:H=hV) (E:B32) (hE':E=hE) (S:Nd→B32) (hS':S=hS) (s t:B32) (V:List Nd) (n c:Nat) (ty:TypeId) (B:List Lf) (m d:Nat) (ty2:TypeId) (x y:B32):List Blk:=[⟨false,ty,.prv (ah V)⟩,⟨false,ty2,.prv (lvals B)⟩,⟨true,24,.lit (cB32.row s)⟩,⟨true,24,.lit (cB32.row t)⟩,⟨true,24,.lit (cB32.row x)⟩,⟨true,24,.lit (cB32.row y)⟩]
def M0 (hH:H=hV) (E:B32) (hE':E=hE) (S:Nd→B32) (hS':S=hS) (s t:B32) (V:List Nd) (n c:Nat) (ty:TypeId) (B:List Lf) (m d:Nat) (ty2:TypeId):List (Option SV):=aD 47 0 [(2,.o (.a (.sld 0 0 0 n c))),(3,.o (.a (.sld 1 0 0 m d))),(4,.o (.a (.ptr 2 0))),(5,.o (.a (.ptr 3 0)))]
theorem i0 (hH:H=hV) (E:B32) (hE':E=hE) (S:Nd→B32) (hS':S=hS) (s t:B32) (V:List Nd) (n c:Nat) (ty:TypeId) (B:List Lf) (m d:Nat) (ty2:TypeId):aC (m0 H hH E hE' S hS' s t V n c ty B m d ty2 ).length (M0 H hH E hE' S hS' s t V n c ty B m d ty2 ) (m0 H hH E hE' S hS' s t V n c ty B m d ty2 )=true:=by kernel_rfl
def M2 (hH:H=hV) (E:B32) (hE':E=hE) (S:Nd→B32) (hS':S=hS) (s t:B32) (V:List Nd) (n c:Nat) (ty:TypeId) (B:List Lf) (m d:Nat) (ty2:TypeId) (k:Nat):List (Option SV):=aD 47 0 [(2,.o (.a (.sld 0 0 0 n c))),(4,.o (.a (.ptr 2 0))),(5,.o (.a (.ptr 3 0))),(9,.o (.a (.slg 4 k)))]
theorem i2 (hH:H=hV) (E:B32) (hE':E=hE) (S:Nd→B32) (hS':S=hS) (s t:B32) (V:List Nd) (n c:Nat) (ty:TypeId) (B:List Lf) (m d:Nat) (ty2:TypeId) (k:Nat) (us:List Value) (lo:Nat) (hi:Option Nat):aC (m1 H hH E hE' S hS' s t V n c ty B m d ty2 us lo hi).length (M2 H hH E hE' S hS' s t V n c ty B m d ty2 k) (m1 H hH E hE' S hS' s t V n c ty B m d ty2 us lo hi)=true:=by kernel_rfl
def Mz (hH:H=hV) (E:B32) (hE':E=hE) (S:Nd→B32) (hS':S=hS) (s t:B32) (V:List Nd) (n c:Nat) (ty:TypeId) (B:List Lf) (m d:Nat) (ty2:TypeId):List (Option SV):=aD 47 0 [(2,.o (.a (.sld 0 0 0 n c))),(4,.o (.a (.ptr 2 0))),(5,.o (.a (.ptr 3 0))),(9,.o (.a (.v (.slice none 0 0))))]
theorem iz (hH:H=hV) (E:B32) (hE':E=hE) (S:Nd→B32) (hS':S=hS) (s t:B32) (V:List Nd) (n c:Nat) (ty:TypeId) (B:List Lf) (m d:Nat) (ty2:TypeId):aC (m0 H hH E hE' S hS' s t V n c ty B m d ty2 ).length (Mz H hH E hE' S hS' s t V n c ty B m d ty2 ) (m0 H hH E hE' S hS' s t V n c ty B m d ty2 )=true:=by kernel_rfl
def M5 (hH:H=hV) (E:B32) (hE':E=hE) (S:Nd→B32) (hS':S=hS) (s t:B32) (V:List Nd) (n c:Nat) (ty:TypeId) (B:List Lf) (m d:Nat) (ty2:TypeId) (e f:Int):List (Option SV):=aD 47 0 [(4,.o (.a (.ptr 2 0))),(5,.o (.a (.ptr 3 0))),(10,.o (.a (.ptr 4 0))),(11,.o (.a (int1 .i64 e))),(12,.o (.a (.ptr 5 0))),(13,.o (.a (int1 .i64 f)))]
theorem i5 (hH:H=hV) (E:B32) (hE':E=hE) (S:Nd→B32) (hS':S=hS) (s t:B32) (V:List Nd) (n c:Nat) (ty:TypeId) (B:List Lf) (m d:Nat) (ty2:TypeId) (e f:Int) (x y:B32):aC (mf H hH E hE' S hS' s t V n c ty B m d ty2 x y).length (M5 H hH E hE' S hS' s t V n c ty B m d ty2 e f) (mf H hH E hE' S hS' s t V n c ty B m d ty2 x y)=true:=by kernel_rfl
def MR (hH:H=hV) (E:B32) (hE':E=hE) (S:Nd→B32) (hS':S=hS) (s t:B32) (V:List Nd) (n c:Nat) (ty:TypeId) (B:List Lf) (m d:Nat) (ty2:TypeId) (e:Int):List (Option SV):=aD 47 0 [(8,.o (.a (int1 .i64 e)))]
def mo (hH:H=hV) (E:B32) (hE':E=hE) (S:Nd→B32) (hS':S=hS) (s t:B32) (V:List Nd) (n c:Nat) (ty:TypeId) (B:List Lf) (m d:Nat) (ty2:TypeId):List Blk:=[⟨false,ty,.prv (ah V)⟩,⟨false,ty2,.prv (lvals B)⟩]
theorem iR (hH:H=hV) (E:B32) (hE':E=hE) (S:Nd→B32) (hS':S=hS) (s t:B32) (V:List Nd) (n c:Nat) (ty:TypeId) (B:List Lf) (m d:Nat) (ty2:TypeId) (e:Int):aC (mo H hH E hE' S hS' s t V n c ty B m d ty2 ).length (MR H hH E hE' S hS' s t V n c ty B m d ty2 e) (mo H hH E hE' S hS' s t V n c ty B m d ty2 )=true:=by kernel_rfl
theorem s0 (hH:H=hV) (E:B32) (hE':E=hE) (S:Nd→B32) (hS':S=hS) (s t:B32) (V:List Nd) (n c:Nat) (ty:TypeId) (B:List Lf) (m d:Nat) (ty2:TypeId):outX (m0 H hH E hE' S hS' s t V n c ty B m d ty2 ).length (M0 H hH E hE' S hS' s t V n c ty B m d ty2 ) (exec Γ1 tys 300 (cpre 1 body) ⟨aF fn [cB32.enc s,cB32.enc t,.o (.a (.sld 0 0 0 n c)),.o (.a (.sld 1 0 0 m d))],[⟨false,ty,.prv (ah V)⟩,⟨false,ty2,.prv (lvals B)⟩],[]⟩)=some (.normal,live (M0 H hH E hE' S hS' s t V n c ty B m d ty2 ),(M0 H hH E hE' S hS' s t V n c ty B m d ty2 ).length,m0 H hH E hE' S hS' s t V n c ty B m d ty2 ,[]):=by kernel_rfl
theorem q (hH:H=hV) (E:B32) (hE':E=hE) (S:Nd→B32) (hS':S=hS) (s t:B32) (V:List Nd) (n c:Nat) (ty:TypeId) (B:List Lf) (m d:Nat) (ty2:TypeId) (g:Nat→SV):outNL [0,1,2,3,5] (M2 H hH E hE' S hS' s t V n c ty B m d ty2 m) (bI Γ1 tys (opsOf R1).toList (((opsOf R1).toList.drop 0).take 6) ⟨fill g 0 (M0 H hH E hE' S hS' s t V n c ty B m d ty2 ),m0 H hH E hE' S hS' s t V n c ty B m d ty2 ,[(15,[.dyn])]⟩)=some ((live (M2 H hH E hE' S hS' s t V n c ty B m d ty2 m)).map (SV.ren (piF [0,1,2,3,5])),(M2 H hH E hE' S hS' s t V n c ty B m d ty2 m).length,(m1 H hH E hE' S hS' s t V n c ty B m d ty2 (((ah (tndV (au (((lvals B).drop (0+0)).take (m*64))))).drop (0+0)).take (m*65)) m none).map (fun b=>some (b.ren (piF [0,1,2,3,5]))),[0+0+n*65≤(ah V).length,n=0,0+0+m*64≤(lvals B).length,m≤d,((lvals B).drop (0+0)).take (m*64)=lvals (au (((lvals B).drop (0+0)).take (m*64))),(au (((lvals B).drop (0+0)).take (m*64))).length=m,m≤4000000,AllL (au (((lvals B).drop (0+0)).take (m*64))),0+0+m*65≤(ah (tndV (au (((lvals B).drop (0+0)).take (m*64))))).length,0<m,Room Tryd.prog 33 m]):=by kernel_rfl
theorem z (hH:H=hV) (E:B32) (hE':E=hE) (S:Nd→B32) (hS':S=hS) (s t:B32) (V:List Nd) (n c:Nat) (ty:TypeId) (B:List Lf) (m d:Nat) (ty2:TypeId) (g:Nat→SV):outNL [0,1,2,3] (Mz H hH E hE' S hS' s t V n c ty B m d ty2 ) (bI Γ1 tys (opsOf R1).toList (((opsOf R1).toList.drop 0).take 6) ⟨fill g 0 (M0 H hH E hE' S hS' s t V n c ty B m d ty2 ),m0 H hH E hE' S hS' s t V n c ty B m d ty2 ,[(15,[.dyn]),(18,[.dyn])]⟩)=some ((live (Mz H hH E hE' S hS' s t V n c ty B m d ty2 )).map (SV.ren (piF [0,1,2,3])),(Mz H hH E hE' S hS' s t V n c ty B m d ty2 ).length,(m0 H hH E hE' S hS' s t V n c ty B m d ty2 ).map (fun b=>some (b.ren (piF [0,1,2,3]))),[0+0+n*65≤(ah V).length,n=0,0+0+m*64≤(lvals B).length,m≤d,((lvals B).drop (0+0)).take (m*64)=lvals (au (((lvals B).drop (0+0)).take (m*64))),(au (((lvals B).drop (0+0)).take (m*64))).length=m,m≤4000000,AllL (au (((lvals B).drop (0+0)).take (m*64))),0+0+m*65≤(ah (tndV (au (((lvals B).drop (0+0)).take (m*64))))).length,m=0]):=by kernel_rfl
end
theorem b (H:Nd→Nd→B32) (hH:H=hV) (E:B32) (hE':E=hE) (S:Nd→B32) (hS':S=hS) (s t:B32) (V:List Nd) (n c:Nat) (ty:TypeId) (B:List Lf) (m d:Nat) (ty2:TypeId) (vs:List Value) (k:Nat) (x:B32) (e:Int) (y:B32) (f:Int) (g:Nat→SV):outN [0,1,2,3,5,6] (M5 H hH E hE' S hS' s t V n c ty B m d ty2 e f) (exec (Γ2 H hH E hE' S hS' ) tys 100 (cpre 3 S2) ⟨fill g 0 (M2 H hH E hE' S hS' s t V n c ty B m d ty2 k),m1 H hH E hE' S hS' s t V n c ty B m d ty2 vs k none,[(23,[.s (hsS (x,e))]),(28,[.s (hsS (y,f))])]⟩)=some (.normal,(live (M5 H hH E hE' S hS' s t V n c ty B m d ty2 e f)).map (SV.ren (piF [0,1,2,3,5,6])),(M5 H hH E hE' S hS' s t V n c ty B m d ty2 e f).length,(mf H hH E hE' S hS' s t V n c ty B m d ty2 x y).map (fun b=>some (b.ren (piF [0,1,2,3,5,6]))),[65=65,vs=ah (aj vs),(aj vs).length=k,k<4611686018427387904,0+0+n*65≤(ah V).length,n≤c,((ah V).drop (0+0)).take (n*65)=ah (aj (((ah V).drop (0+0)).take (n*65))),(aj (((ah V).drop (0+0)).take (n*65))).length=n,n<aI,aB (aj (((ah V).drop (0+0)).take (n*65))),hsS (aH H E S (aj (((ah V).drop (0+0)).take (n*65))))=hsS (x,e),0+0+k*65≤(ah (bf (aj vs))).length,k≤k,((ah (bf (aj vs))).drop (0+0)).take (k*65)=ah (aj (((ah (bf (aj vs))).drop (0+0)).take (k*65))),(aj (((ah (bf (aj vs))).drop (0+0)).take (k*65))).length=k,k<aI,aB (aj (((ah (bf (aj vs))).drop (0+0)).take (k*65))),hsS (aH H E S (aj (((ah (bf (aj vs))).drop (0+0)).take (k*65))))=hsS (y,f)]):=by kernel_rfl
section
variable (H:Nd→Nd→B32) (hH:H=hV) (E:B32) (hE':E=hE) (S:Nd→B32) (hS':S=hS) (s t:B32) (V:List Nd) (n c:Nat) (ty:TypeId) (B:List Lf) (m d:Nat) (ty2:TypeId)
theorem bz (x:B32) (e:Int) (y:B32) (f:Int) (g:Nat→SV):outN [0,1,2,3,4,5] (M5 H hH E hE' S hS' s t V n c ty B m d ty2 e f) (exec (Γ2 H hH E hE' S hS' ) tys 100 (cpre 3 S2) ⟨fill g 0 (Mz H hH E hE' S hS' s t V n c ty B m d ty2 ),m0 H hH E hE' S hS' s t V n c ty B m d ty2 ,[(23,[.s (hsS (x,e))]),(28,[.s (hsS (y,f))])]⟩)=some (.normal,(live (M5 H hH E hE' S hS' s t V n c ty B m d ty2 e f)).map (SV.ren (piF [0,1,2,3,4,5])),(M5 H hH E hE' S hS' s t V n c ty B m d ty2 e f).length,(mf H hH E hE' S hS' s t V n c ty B m d ty2 x y).map (fun b=>some (b.ren (piF [0,1,2,3,4,5]))),[0+0+n*65≤(ah V).length,n≤c,((ah V).drop (0+0)).take (n*65)=ah (aj (((ah V).drop (0+0)).take (n*65))),(aj (((ah V).drop (0+0)).take (n*65))).length=n,n<aI,aB (aj (((ah V).drop (0+0)).take (n*65))),hsS (aH H E S (aj (((ah V).drop (0+0)).take (n*65))))=hsS (x,e),hsS (E,0)=hsS (y,f)]):=by kernel_rfl
theorem t1 (x y:B32) (f:Int) (g:Nat→SV):outX (mo H hH E hE' S hS' s t V n c ty B m d ty2 ).length (MR H hH E hE' S hS' s t V n c ty B m d ty2 1) (exec Γ1 tys 300 T ⟨fill g 0 (M5 H hH E hE' S hS' s t V n c ty B m d ty2 1 f),mf H hH E hE' S hS' s t V n c ty B m d ty2 x y,[]⟩)=some (.ret,live (MR H hH E hE' S hS' s t V n c ty B m d ty2 1),(MR H hH E hE' S hS' s t V n c ty B m d ty2 1).length,mo H hH E hE' S hS' s t V n c ty B m d ty2 ,[]):=by kernel_rfl
theorem t2 (x y:B32) (g:Nat→SV):outX (mo H hH E hE' S hS' s t V n c ty B m d ty2 ).length (MR H hH E hE' S hS' s t V n c ty B m d ty2 1) (exec Γ1 tys 300 T ⟨fill g 0 (M5 H hH E hE' S hS' s t V n c ty B m d ty2 0 1),mf H hH E hE' S hS' s t V n c ty B m d ty2 x y,[]⟩)=some (.ret,live (MR H hH E hE' S hS' s t V n c ty B m d ty2 1),(MR H hH E hE' S hS' s t V n c ty B m d ty2 1).length,mo H hH E hE' S hS' s t V n c ty B m d ty2 ,[]):=by kernel_rfl
theorem t3 (x y:B32) (g:Nat→SV):outX (mo H hH E hE' S hS' s t V n c ty B m d ty2 ).length (MR H hH E hE' S hS' s t V n c ty B m d ty2 3) (exec Γ1 tys 300 T ⟨fill g 0 (M5 H hH E hE' S hS' s t V n c ty B m d ty2 0 0),mf H hH E hE' S hS' s t V n c ty B m d ty2 x y,[(41,[.b true])]⟩)=some (.ret,live (MR H hH E hE' S hS' s t V n c ty B m d ty2 3),(MR H hH E hE' S hS' s t V n c ty B m d ty2 3).length,mo H hH E hE' S hS' s t V n c ty B m d ty2 ,[(!eqL x.to s.to)=true]):=by kernel_rfl
theorem t4 (x y:B32) (g:Nat→SV):outX (mo H hH E hE' S hS' s t V n c ty B m d ty2 ).length (MR H hH E hE' S hS' s t V n c ty B m d ty2 3) (exec Γ1 tys 300 T ⟨fill g 0 (M5 H hH E hE' S hS' s t V n c ty B m d ty2 0 0),mf H hH E hE' S hS' s t V n c ty B m d ty2 x y,[(41,[.b false]),(45,[.b true])]⟩)=some (.ret,live (MR H hH E hE' S hS' s t V n c ty B m d ty2 3),(MR H hH E hE' S hS' s t V n c ty B m d ty2 3).length,mo H hH E hE' S hS' s t V n c ty B m d ty2 ,[(!eqL x.to s.to)=false,(!eqL y.to t.to)=true]):=by kernel_rfl
theorem t5 (x y:B32) (g:Nat→SV):outX (mo H hH E hE' S hS' s t V n c ty B m d ty2 ).length (MR H hH E hE' S hS' s t V n c ty B m d ty2 0) (exec Γ1 tys 300 T ⟨fill g 0 (M5 H hH E hE' S hS' s t V n c ty B m d ty2 0 0),mf H hH E hE' S hS' s t V n c ty B m d ty2 x y,[(41,[.b false]),(45,[.b false])]⟩)=some (.ret,live (MR H hH E hE' S hS' s t V n c ty B m d ty2 0),(MR H hH E hE' S hS' s t V n c ty B m d ty2 0).length,mo H hH E hE' S hS' s t V n c ty B m d ty2 ,[(!eqL x.to s.to)=false,(!eqL y.to t.to)=false]):=by kernel_rfl
theorem zr (e:Int) (mm:Nat→Option Blk) (g:Nat→SV):eRes tys (fill g 0 (MR H hH E hE' S hS' s t V n c ty B m d ty2 e)) mm fn.results.toList=some [.a (int1 .i64 e)]:=by kernel_rfl
theorem tail (x y:B32 × Int) (hx:x.2=0∨x.2=1) (hy:y.2=0∨y.2=1) (g:Nat→SV):aA Tryd.prog GT 2 T (fill g 0 (M5 H hH E hE' S hS' s t V n c ty B m d ty2 x.2 y.2)) (mf H hH E hE' S hS' s t V n c ty B m d ty2 x.1 y.1) (ay tys fn (aR (.o (.a (int1 .i64 (chkV x y s t)))) .none)):=by
 obtain⟨x,e⟩:=x
 obtain⟨y,f⟩:=y
 rcases hx with rfl | rfl
 ·rcases hy with rfl | rfl
  ·cases h1:eqL x.to s.to with
   | false=>
    refine Runs.av ak mixed (t3 H hH E hE' S hS' s t V n c ty B m d ty2 x y g) ⟨by rw[h1];rfl,trivial⟩ (iR H hH E hE' S hS' s t V n c ty B m d ty2 _) rfl fun g=>ay.ret (zr H hH E hE' S hS' s t V n c ty B m d ty2 _ _ g) ?_
    unfold chkV;rw[h1];rfl
   | true=>
    cases h2:eqL y.to t.to with
    | false=>
     refine Runs.av ak mixed (t4 H hH E hE' S hS' s t V n c ty B m d ty2 x y g) ⟨by rw[h1];rfl,by rw[h2];rfl,trivial⟩ (iR H hH E hE' S hS' s t V n c ty B m d ty2 _) rfl fun g=>ay.ret (zr H hH E hE' S hS' s t V n c ty B m d ty2 _ _ g) ?_
     unfold chkV;rw[h1,h2];rfl
    | true=>
     refine Runs.av ak mixed (t5 H hH E hE' S hS' s t V n c ty B m d ty2 x y g) ⟨by rw[h1];rfl,by rw[h2];rfl,trivial⟩ (iR H hH E hE' S hS' s t V n c ty B m d ty2 _) rfl fun g=>ay.ret (zr H hH E hE' S hS' s t V n c ty B m d ty2 _ _ g) ?_
     unfold chkV;rw[h1,h2];rfl
  ·exact Runs.av ak mixed (t2 H hH E hE' S hS' s t V n c ty B m d ty2 x y g) trivial (iR H hH E hE' S hS' s t V n c ty B m d ty2 _) rfl fun g=>ay.ret (zr H hH E hE' S hS' s t V n c ty B m d ty2 _ _ g) rfl
 ·exact Runs.av ak mixed (t1 H hH E hE' S hS' s t V n c ty B m d ty2 x y f g) trivial (iR H hH E hE' S hS' s t V n c ty B m d ty2 _) rfl fun g=>ay.ret (zr H hH E hE' S hS' s t V n c ty B m d ty2 _ _ g) rfl
theorem back (hn:V.length=n) (hc:n≤c) (hV':aB V) (hm:B.length=m) (hd:m≤d) (hB:AllL B) (hb:n+m≤4000000) (h0:n=0) (U:List Nd) (k:Nat) (hk':aB U) (hk2:U.length=k) (hk3:k≤4000000) (g:Nat→SV):aA Tryd.prog GT 2 S2 (fill g 0 (M2 H hH E hE' S hS' s t V n c ty B m d ty2 k)) (m1 H hH E hE' S hS' s t V n c ty B m d ty2 (ah U) k none) (ay tys fn (aR (.o (.a (int1 .i64 (chkV (aH H E S V) (aH H E S (bf U)) s t)))) .none)):=by
 have dN:((ah V).drop (0+0)).take (n*65)=ah V:=dtn hn
 have ln:(ah V).length=n*65:=by rw[←hn];exact aL V
 have dB:((lvals B).drop (0+0)).take (m*64)=lvals B:=dtl hm
 have lb:(lvals B).length=m*64:=by rw[←hm];exact bP B
 have lt:(tndV B).length=m:=by rw[tnd_len,hm]
 have lz:(ah (tndV B)).length=m*65:=by rw[aL,lt]
 have dT:((ah (tndV B)).drop (0+0)).take (m*65)=ah (tndV B):=dtn lt
 have hk:=tnd_ok hB
 have ls:(bf U).length=k:=by rw[sortL_len,hk2]
 have dS:((ah (bf U)).drop (0+0)).take (k*65)=ah (bf U):=dtn ls
 have q:=b H hH E hE' S hS' s t V n c ty B m d ty2 (ah U) k (aH H E S V).1 (aH H E S V).2 (aH H E S (bf U)).1 (aH H E S (bf U)).2 g
 rw[aK,dS,aK,dN,aK] at q
 refine Runs.of_outNP ak mixed 3 [0,1,2,3,5,6] q ⟨rfl,rfl,hk2,by omega,by omega,hc,rfl,hn,by unfold aI;omega,hV',rfl,by rw[aL,ls];omega,Nat.le_refl _,rfl,ls,by unfold aI;omega,hk'.sort,rfl,trivial⟩ (i5 H hH E hE' S hS' s t V n c ty B m d ty2 _ _ _ _) (by kernel_rfl) fun g=> ?_
 exact tail H hH E hE' S hS' s t V n c ty B m d ty2 _ _ (root_01 H E S _) (root_01 H E S _) g
theorem backz (hn:V.length=n) (hc:n≤c) (hV':aB V) (hm:B.length=m) (hd:m≤d) (hB:AllL B) (hb:n+m≤4000000) (h0:n=0) (g:Nat→SV):aA Tryd.prog GT 2 S2 (fill g 0 (Mz H hH E hE' S hS' s t V n c ty B m d ty2)) (m0 H hH E hE' S hS' s t V n c ty B m d ty2) (ay tys fn (aR (.o (.a (int1 .i64 (chkV (aH H E S V) (E,0) s t)))) .none)):=by
 have dN:((ah V).drop (0+0)).take (n*65)=ah V:=dtn hn
 have ln:(ah V).length=n*65:=by rw[←hn];exact aL V
 have dB:((lvals B).drop (0+0)).take (m*64)=lvals B:=dtl hm
 have lb:(lvals B).length=m*64:=by rw[←hm];exact bP B
 have lt:(tndV B).length=m:=by rw[tnd_len,hm]
 have lz:(ah (tndV B)).length=m*65:=by rw[aL,lt]
 have dT:((ah (tndV B)).drop (0+0)).take (m*65)=ah (tndV B):=dtn lt
 have hk:=tnd_ok hB
 have q:=bz H hH E hE' S hS' s t V n c ty B m d ty2 (aH H E S V).1 (aH H E S V).2 E 0 g
 rw[dN,aK] at q
 refine Runs.of_outNP ak mixed 3 [0,1,2,3,4,5] q ⟨by omega,hc,rfl,hn,by unfold aI;omega,hV',rfl,rfl,trivial⟩ (i5 H hH E hE' S hS' s t V n c ty B m d ty2 _ _ _ _) (by kernel_rfl) fun g=> ?_
 exact tail H hH E hE' S hS' s t V n c ty B m d ty2 (aH H E S V) (E,0) (root_01 H E S _) (.inl rfl) g
end
theorem run (H:Nd→Nd→B32) (hH:H=hV) (E:B32) (hE':E=hE) (S:Nd→B32) (hS':S=hS) (s t:B32) (V:List Nd) (n c:Nat) (ty:TypeId) (B:List Lf) (m d:Nat) (ty2:TypeId) (hn:V.length=n) (hc:n≤c) (hV':aB V) (hm:B.length=m) (hd:m≤d) (hB:AllL B) (hb:n+m≤4000000) (h0:n=0):aA Tryd.prog GT 2 body (aF fn [cB32.enc s,cB32.enc t,.o (.a (.sld 0 0 0 n c)),.o (.a (.sld 1 0 0 m d))]) [⟨false,ty,.prv (ah V)⟩,⟨false,ty2,.prv (lvals B)⟩] (ay tys fn (aR (.o (.a (int1 .i64 (chkT H E S s t V B)))) .none)):=by
 have dN:((ah V).drop (0+0)).take (n*65)=ah V:=dtn hn
 have ln:(ah V).length=n*65:=by rw[←hn];exact aL V
 have dB:((lvals B).drop (0+0)).take (m*64)=lvals B:=dtl hm
 have lb:(lvals B).length=m*64:=by rw[←hm];exact bP B
 have lt:(tndV B).length=m:=by rw[tnd_len,hm]
 have lz:(ah (tndV B)).length=m*65:=by rw[aL,lt]
 have dT:((ah (tndV B)).drop (0+0)).take (m*65)=ah (tndV B):=dtn lt
 have hk:=tnd_ok hB
 refine Runs.bC ak mixed 1 (s0 H hH E hE' S hS' s t V n c ty B m d ty2) trivial (i0 H hH E hE' S hS' s t V n c ty B m d ty2) rfl fun g=> ?_
 rw[suf_1]
 refine Runs.seq (Runs.region ?_)
 unfold chkT
 obtain rfl:V=[]:=List.eq_nil_of_length_eq_zero (by omega)
 rcases Nat.eq_zero_or_pos m with h1 | h1
 ·obtain rfl:B=[]:=List.eq_nil_of_length_eq_zero (by omega)
  have q:=z H hH E hE' S hS' s t [] n c ty [] m d ty2 g
  rw[dB,bG] at q
  refine aV.aN ak 6 [0,1,2,3] q ⟨by omega,h0,by omega,hd,rfl,hm,by omega,hB,by omega,h1,trivial⟩ (iz H hH E hE' S hS' s t [] n c ty [] m d ty2) rfl fun g=> ?_
  rw[nil0,tnd_nil,List.append_nil,show bf []=[] from List.eq_nil_of_length_eq_zero (sortL_len []),show aH H E S []=(E,0) from rfl]
  exact aV.nil (backz H hH E hE' S hS' s t [] n c ty [] m d ty2 hn hc hV' hm hd hB hb h0 g)
 ·have q:=zw.q H hH E hE' S hS' s t [] n c ty B m d ty2 g
  rw[dB,bG,dT] at q
  refine aV.aN ak 6 [0,1,2,3,5] q ⟨by omega,h0,by omega,hd,rfl,hm,by omega,hB,by omega,h1,roomN m (by omega),trivial⟩ (i2 H hH E hE' S hS' s t [] n c ty B m d ty2 _ _ _ _) rfl fun g=> ?_
  rw[nil0,List.nil_append]
  exact aV.nil (back H hH E hE' S hS' s t [] n c ty B m d ty2 hn hc hV' hm hd hB hb h0 (tndV B) m hk lt (by omega) g)
end zw
namespace nw
section
variable (H:Nd→Nd→B32)
def m0 (hH:H=hV) (E:B32) (hE':E=hE) (S:Nd→B32) (hS':S=hS) (s t:B32) (a:Option Addr) (B:List Lf) (m d:Nat) (ty2:TypeId):List Blk:=[⟨false,ty2,.prv (lvals B)⟩,⟨true,24,.lit (cB32.row s)⟩,⟨true,24,.lit (cB32.row t)⟩]
def m1 (hH:H=hV) (E:B32) (hE':E=hE) (S:Nd→B32) (hS':S=hS) (s t:B32) (a:Option Addr) (B:List Lf) (m d:Nat) (ty2:TypeId) (us:List Value) (lo:Nat) (hi:Option Nat):List Blk:=[⟨false,ty2,.prv (lvals B)⟩,⟨true,24,.lit (cB32.row s)⟩,⟨true,24,.lit (cB32.row t)⟩,⟨true,33,.grv 65 us lo hi⟩]
def mf (hH:H=hV) (E:B32) (hE':E=hE) (S:Nd→B32) (hS':S=hS) (s t:B32) (a:Option Addr) (B:List Lf) (m d:Nat) (ty2:TypeId) (x y:B32):List Blk:=[⟨false,ty2,.prv (lvals B)⟩,⟨true,24,.lit (cB32.row s)⟩,⟨true,24,.lit (cB32.row t)⟩,⟨true,24,.lit (cB32.row x)⟩,⟨true,24,.lit (cB32.row y)⟩]
def M0 (hH:H=hV) (E:B32) (hE':E=hE) (S:Nd→B32) (hS':S=hS) (s t:B32) (a:Option Addr) (B:List Lf) (m d:Nat) (ty2:TypeId):List (Option SV):=aD 47 0 [(2,.o (.a (.v (.slice a 0 0)))),(3,.o (.a (.sld 0 0 0 m d))),(4,.o (.a (.ptr 1 0))),(5,.o (.a (.ptr 2 0)))]
theorem i0 (hH:H=hV) (E:B32) (hE':E=hE) (S:Nd→B32) (hS':S=hS) (s t:B32) (a:Option Addr) (B:List Lf) (m d:Nat) (ty2:TypeId):aC (m0 H hH E hE' S hS' s t a B m d ty2 ).length (M0 H hH E hE' S hS' s t a B m d ty2 ) (m0 H hH E hE' S hS' s t a B m d ty2 )=true:=by kernel_rfl
def M2 (hH:H=hV) (E:B32) (hE':E=hE) (S:Nd→B32) (hS':S=hS) (s t:B32) (a:Option Addr) (B:List Lf) (m d:Nat) (ty2:TypeId) (k:Nat):List (Option SV):=aD 47 0 [(2,.o (.a (.v (.slice a 0 0)))),(4,.o (.a (.ptr 1 0))),(5,.o (.a (.ptr 2 0))),(9,.o (.a (.slg 3 k)))]
theorem i2 (hH:H=hV) (E:B32) (hE':E=hE) (S:Nd→B32) (hS':S=hS) (s t:B32) (a:Option Addr) (B:List Lf) (m d:Nat) (ty2:TypeId) (k:Nat) (us:List Value) (lo:Nat) (hi:Option Nat):aC (m1 H hH E hE' S hS' s t a B m d ty2 us lo hi).length (M2 H hH E hE' S hS' s t a B m d ty2 k) (m1 H hH E hE' S hS' s t a B m d ty2 us lo hi)=true:=by kernel_rfl
def Mz (hH:H=hV) (E:B32) (hE':E=hE) (S:Nd→B32) (hS':S=hS) (s t:B32) (a:Option Addr) (B:List Lf) (m d:Nat) (ty2:TypeId):List (Option SV):=aD 47 0 [(2,.o (.a (.v (.slice a 0 0)))),(4,.o (.a (.ptr 1 0))),(5,.o (.a (.ptr 2 0))),(9,.o (.a (.v (.slice none 0 0))))]
theorem iz (hH:H=hV) (E:B32) (hE':E=hE) (S:Nd→B32) (hS':S=hS) (s t:B32) (a:Option Addr) (B:List Lf) (m d:Nat) (ty2:TypeId):aC (m0 H hH E hE' S hS' s t a B m d ty2 ).length (Mz H hH E hE' S hS' s t a B m d ty2 ) (m0 H hH E hE' S hS' s t a B m d ty2 )=true:=by kernel_rfl
def M5 (hH:H=hV) (E:B32) (hE':E=hE) (S:Nd→B32) (hS':S=hS) (s t:B32) (a:Option Addr) (B:List Lf) (m d:Nat) (ty2:TypeId) (e f:Int):List (Option SV):=aD 47 0 [(4,.o (.a (.ptr 1 0))),(5,.o (.a (.ptr 2 0))),(10,.o (.a (.ptr 3 0))),(11,.o (.a (int1 .i64 e))),(12,.o (.a (.ptr 4 0))),(13,.o (.a (int1 .i64 f)))]
theorem i5 (hH:H=hV) (E:B32) (hE':E=hE) (S:Nd→B32) (hS':S=hS) (s t:B32) (a:Option Addr) (B:List Lf) (m d:Nat) (ty2:TypeId) (e f:Int) (x y:B32):aC (mf H hH E hE' S hS' s t a B m d ty2 x y).length (M5 H hH E hE' S hS' s t a B m d ty2 e f) (mf H hH E hE' S hS' s t a B m d ty2 x y)=true:=by kernel_rfl
def MR (hH:H=hV) (E:B32) (hE':E=hE) (S:Nd→B32) (hS':S=hS) (s t:B32) (a:Option Addr) (B:List Lf) (m d:Nat) (ty2:TypeId) (e:Int):List (Option SV):=aD 47 0 [(8,.o (.a (int1 .i64 e)))]
def mo (hH:H=hV) (E:B32) (hE':E=hE) (S:Nd→B32) (hS':S=hS) (s t:B32) (a:Option Addr) (B:List Lf) (m d:Nat) (ty2:TypeId):List Blk:=[⟨false,ty2,.prv (lvals B)⟩]
theorem iR (hH:H=hV) (E:B32) (hE':E=hE) (S:Nd→B32) (hS':S=hS) (s t:B32) (a:Option Addr) (B:List Lf) (m d:Nat) (ty2:TypeId) (e:Int):aC (mo H hH E hE' S hS' s t a B m d ty2 ).length (MR H hH E hE' S hS' s t a B m d ty2 e) (mo H hH E hE' S hS' s t a B m d ty2 )=true:=by kernel_rfl
theorem s0 (hH:H=hV) (E:B32) (hE':E=hE) (S:Nd→B32) (hS':S=hS) (s t:B32) (a:Option Addr) (B:List Lf) (m d:Nat) (ty2:TypeId):outX (m0 H hH E hE' S hS' s t a B m d ty2 ).length (M0 H hH E hE' S hS' s t a B m d ty2 ) (exec Γ1 tys 300 (cpre 1 body) ⟨aF fn [cB32.enc s,cB32.enc t,.o (.a (.v (.slice a 0 0))),.o (.a (.sld 0 0 0 m d))],[⟨false,ty2,.prv (lvals B)⟩],[]⟩)=some (.normal,live (M0 H hH E hE' S hS' s t a B m d ty2 ),(M0 H hH E hE' S hS' s t a B m d ty2 ).length,m0 H hH E hE' S hS' s t a B m d ty2 ,[]):=by kernel_rfl
theorem q (hH:H=hV) (E:B32) (hE':E=hE) (S:Nd→B32) (hS':S=hS) (s t:B32) (a:Option Addr) (B:List Lf) (m d:Nat) (ty2:TypeId) (g:Nat→SV):outNL [0,1,2,4] (M2 H hH E hE' S hS' s t a B m d ty2 m) (bI Γ1 tys (opsOf R1).toList (((opsOf R1).toList.drop 0).take 6) ⟨fill g 0 (M0 H hH E hE' S hS' s t a B m d ty2 ),m0 H hH E hE' S hS' s t a B m d ty2 ,[(15,[.dyn])]⟩)=some ((live (M2 H hH E hE' S hS' s t a B m d ty2 m)).map (SV.ren (piF [0,1,2,4])),(M2 H hH E hE' S hS' s t a B m d ty2 m).length,(m1 H hH E hE' S hS' s t a B m d ty2 (((ah (tndV (au (((lvals B).drop (0+0)).take (m*64))))).drop (0+0)).take (m*65)) m none).map (fun b=>some (b.ren (piF [0,1,2,4]))),[0=0,0+0+m*64≤(lvals B).length,m≤d,((lvals B).drop (0+0)).take (m*64)=lvals (au (((lvals B).drop (0+0)).take (m*64))),(au (((lvals B).drop (0+0)).take (m*64))).length=m,m≤4000000,AllL (au (((lvals B).drop (0+0)).take (m*64))),0+0+m*65≤(ah (tndV (au (((lvals B).drop (0+0)).take (m*64))))).length,0<m,Room Tryd.prog 33 m]):=by kernel_rfl
theorem z (hH:H=hV) (E:B32) (hE':E=hE) (S:Nd→B32) (hS':S=hS) (s t:B32) (a:Option Addr) (B:List Lf) (m d:Nat) (ty2:TypeId) (g:Nat→SV):outNL [0,1,2] (Mz H hH E hE' S hS' s t a B m d ty2 ) (bI Γ1 tys (opsOf R1).toList (((opsOf R1).toList.drop 0).take 6) ⟨fill g 0 (M0 H hH E hE' S hS' s t a B m d ty2 ),m0 H hH E hE' S hS' s t a B m d ty2 ,[(15,[.dyn]),(18,[.dyn])]⟩)=some ((live (Mz H hH E hE' S hS' s t a B m d ty2 )).map (SV.ren (piF [0,1,2])),(Mz H hH E hE' S hS' s t a B m d ty2 ).length,(m0 H hH E hE' S hS' s t a B m d ty2 ).map (fun b=>some (b.ren (piF [0,1,2]))),[0=0,0+0+m*64≤(lvals B).length,m≤d,((lvals B).drop (0+0)).take (m*64)=lvals (au (((lvals B).drop (0+0)).take (m*64))),(au (((lvals B).drop (0+0)).take (m*64))).length=m,m≤4000000,AllL (au (((lvals B).drop (0+0)).take (m*64))),0+0+m*65≤(ah (tndV (au (((lvals B).drop (0+0)).take (m*64))))).length,m=0]):=by kernel_rfl
end
theorem b (H:Nd→Nd→B32) (hH:H=hV) (E:B32) (hE':E=hE) (S:Nd→B32) (hS':S=hS) (s t:B32) (a:Option Addr) (B:List Lf) (m d:Nat) (ty2:TypeId) (vs:List Value) (k:Nat) (x:B32) (e:Int) (y:B32) (f:Int) (g:Nat→SV):outN [0,1,2,4,5] (M5 H hH E hE' S hS' s t a B m d ty2 e f) (exec (Γ2 H hH E hE' S hS' ) tys 100 (cpre 3 S2) ⟨fill g 0 (M2 H hH E hE' S hS' s t a B m d ty2 k),m1 H hH E hE' S hS' s t a B m d ty2 vs k none,[(23,[.s (hsS (x,e))]),(28,[.s (hsS (y,f))])]⟩)=some (.normal,(live (M5 H hH E hE' S hS' s t a B m d ty2 e f)).map (SV.ren (piF [0,1,2,4,5])),(M5 H hH E hE' S hS' s t a B m d ty2 e f).length,(mf H hH E hE' S hS' s t a B m d ty2 x y).map (fun b=>some (b.ren (piF [0,1,2,4,5]))),[65=65,vs=ah (aj vs),(aj vs).length=k,k<4611686018427387904,hsS (E,0)=hsS (x,e),0+0+k*65≤(ah (bf (aj vs))).length,k≤k,((ah (bf (aj vs))).drop (0+0)).take (k*65)=ah (aj (((ah (bf (aj vs))).drop (0+0)).take (k*65))),(aj (((ah (bf (aj vs))).drop (0+0)).take (k*65))).length=k,k<aI,aB (aj (((ah (bf (aj vs))).drop (0+0)).take (k*65))),hsS (aH H E S (aj (((ah (bf (aj vs))).drop (0+0)).take (k*65))))=hsS (y,f)]):=by kernel_rfl
section
variable (H:Nd→Nd→B32) (hH:H=hV) (E:B32) (hE':E=hE) (S:Nd→B32) (hS':S=hS) (s t:B32) (a:Option Addr) (B:List Lf) (m d:Nat) (ty2:TypeId)
theorem bz (x:B32) (e:Int) (y:B32) (f:Int) (g:Nat→SV):outN [0,1,2,3,4] (M5 H hH E hE' S hS' s t a B m d ty2 e f) (exec (Γ2 H hH E hE' S hS' ) tys 100 (cpre 3 S2) ⟨fill g 0 (Mz H hH E hE' S hS' s t a B m d ty2 ),m0 H hH E hE' S hS' s t a B m d ty2 ,[(23,[.s (hsS (x,e))]),(28,[.s (hsS (y,f))])]⟩)=some (.normal,(live (M5 H hH E hE' S hS' s t a B m d ty2 e f)).map (SV.ren (piF [0,1,2,3,4])),(M5 H hH E hE' S hS' s t a B m d ty2 e f).length,(mf H hH E hE' S hS' s t a B m d ty2 x y).map (fun b=>some (b.ren (piF [0,1,2,3,4]))),[hsS (E,0)=hsS (x,e),hsS (E,0)=hsS (y,f)]):=by kernel_rfl
theorem t1 (x y:B32) (f:Int) (g:Nat→SV):outX (mo H hH E hE' S hS' s t a B m d ty2 ).length (MR H hH E hE' S hS' s t a B m d ty2 1) (exec Γ1 tys 300 T ⟨fill g 0 (M5 H hH E hE' S hS' s t a B m d ty2 1 f),mf H hH E hE' S hS' s t a B m d ty2 x y,[]⟩)=some (.ret,live (MR H hH E hE' S hS' s t a B m d ty2 1),(MR H hH E hE' S hS' s t a B m d ty2 1).length,mo H hH E hE' S hS' s t a B m d ty2 ,[]):=by kernel_rfl
theorem t2 (x y:B32) (g:Nat→SV):outX (mo H hH E hE' S hS' s t a B m d ty2 ).length (MR H hH E hE' S hS' s t a B m d ty2 1) (exec Γ1 tys 300 T ⟨fill g 0 (M5 H hH E hE' S hS' s t a B m d ty2 0 1),mf H hH E hE' S hS' s t a B m d ty2 x y,[]⟩)=some (.ret,live (MR H hH E hE' S hS' s t a B m d ty2 1),(MR H hH E hE' S hS' s t a B m d ty2 1).length,mo H hH E hE' S hS' s t a B m d ty2 ,[]):=by kernel_rfl
theorem t3 (x y:B32) (g:Nat→SV):outX (mo H hH E hE' S hS' s t a B m d ty2 ).length (MR H hH E hE' S hS' s t a B m d ty2 3) (exec Γ1 tys 300 T ⟨fill g 0 (M5 H hH E hE' S hS' s t a B m d ty2 0 0),mf H hH E hE' S hS' s t a B m d ty2 x y,[(41,[.b true])]⟩)=some (.ret,live (MR H hH E hE' S hS' s t a B m d ty2 3),(MR H hH E hE' S hS' s t a B m d ty2 3).length,mo H hH E hE' S hS' s t a B m d ty2 ,[(!eqL x.to s.to)=true]):=by kernel_rfl
theorem t4 (x y:B32) (g:Nat→SV):outX (mo H hH E hE' S hS' s t a B m d ty2 ).length (MR H hH E hE' S hS' s t a B m d ty2 3) (exec Γ1 tys 300 T ⟨fill g 0 (M5 H hH E hE' S hS' s t a B m d ty2 0 0),mf H hH E hE' S hS' s t a B m d ty2 x y,[(41,[.b false]),(45,[.b true])]⟩)=some (.ret,live (MR H hH E hE' S hS' s t a B m d ty2 3),(MR H hH E hE' S hS' s t a B m d ty2 3).length,mo H hH E hE' S hS' s t a B m d ty2 ,[(!eqL x.to s.to)=false,(!eqL y.to t.to)=true]):=by kernel_rfl
theorem t5 (x y:B32) (g:Nat→SV):outX (mo H hH E hE' S hS' s t a B m d ty2 ).length (MR H hH E hE' S hS' s t a B m d ty2 0) (exec Γ1 tys 300 T ⟨fill g 0 (M5 H hH E hE' S hS' s t a B m d ty2 0 0),mf H hH E hE' S hS' s t a B m d ty2 x y,[(41,[.b false]),(45,[.b false])]⟩)=some (.ret,live (MR H hH E hE' S hS' s t a B m d ty2 0),(MR H hH E hE' S hS' s t a B m d ty2 0).length,mo H hH E hE' S hS' s t a B m d ty2 ,[(!eqL x.to s.to)=false,(!eqL y.to t.to)=false]):=by kernel_rfl
theorem zr (e:Int) (mm:Nat→Option Blk) (g:Nat→SV):eRes tys (fill g 0 (MR H hH E hE' S hS' s t a B m d ty2 e)) mm fn.results.toList=some [.a (int1 .i64 e)]:=by kernel_rfl
theorem tail (x y:B32 × Int) (hx:x.2=0∨x.2=1) (hy:y.2=0∨y.2=1) (g:Nat→SV):aA Tryd.prog GT 1 T (fill g 0 (M5 H hH E hE' S hS' s t a B m d ty2 x.2 y.2)) (mf H hH E hE' S hS' s t a B m d ty2 x.1 y.1) (ay tys fn (aR (.o (.a (int1 .i64 (chkV x y s t)))) .none)):=by
 obtain⟨x,e⟩:=x
 obtain⟨y,f⟩:=y
 rcases hx with rfl | rfl
 ·rcases hy with rfl | rfl
  ·cases h1:eqL x.to s.to with
   | false=>
    refine Runs.av ak mixed (t3 H hH E hE' S hS' s t a B m d ty2 x y g) ⟨by rw[h1];rfl,trivial⟩ (iR H hH E hE' S hS' s t a B m d ty2 _) rfl fun g=>ay.ret (zr H hH E hE' S hS' s t a B m d ty2 _ _ g) ?_
    unfold chkV;rw[h1];rfl
   | true=>
    cases h2:eqL y.to t.to with
    | false=>
     refine Runs.av ak mixed (t4 H hH E hE' S hS' s t a B m d ty2 x y g) ⟨by rw[h1];rfl,by rw[h2];rfl,trivial⟩ (iR H hH E hE' S hS' s t a B m d ty2 _) rfl fun g=>ay.ret (zr H hH E hE' S hS' s t a B m d ty2 _ _ g) ?_
     unfold chkV;rw[h1,h2];rfl
    | true=>
     refine Runs.av ak mixed (t5 H hH E hE' S hS' s t a B m d ty2 x y g) ⟨by rw[h1];rfl,by rw[h2];rfl,trivial⟩ (iR H hH E hE' S hS' s t a B m d ty2 _) rfl fun g=>ay.ret (zr H hH E hE' S hS' s t a B m d ty2 _ _ g) ?_
     unfold chkV;rw[h1,h2];rfl
  ·exact Runs.av ak mixed (t2 H hH E hE' S hS' s t a B m d ty2 x y g) trivial (iR H hH E hE' S hS' s t a B m d ty2 _) rfl fun g=>ay.ret (zr H hH E hE' S hS' s t a B m d ty2 _ _ g) rfl
 ·exact Runs.av ak mixed (t1 H hH E hE' S hS' s t a B m d ty2 x y f g) trivial (iR H hH E hE' S hS' s t a B m d ty2 _) rfl fun g=>ay.ret (zr H hH E hE' S hS' s t a B m d ty2 _ _ g) rfl
theorem back (hm:B.length=m) (hd:m≤d) (hB:AllL B) (hb:m≤4000000) (U:List Nd) (k:Nat) (hk':aB U) (hk2:U.length=k) (hk3:k≤4000000) (g:Nat→SV):aA Tryd.prog GT 1 S2 (fill g 0 (M2 H hH E hE' S hS' s t a B m d ty2 k)) (m1 H hH E hE' S hS' s t a B m d ty2 (ah U) k none) (ay tys fn (aR (.o (.a (int1 .i64 (chkV (aH H E S []) (aH H E S (bf U)) s t)))) .none)):=by
 have dB:((lvals B).drop (0+0)).take (m*64)=lvals B:=dtl hm
 have lb:(lvals B).length=m*64:=by rw[←hm];exact bP B
 have lt:(tndV B).length=m:=by rw[tnd_len,hm]
 have lz:(ah (tndV B)).length=m*65:=by rw[aL,lt]
 have dT:((ah (tndV B)).drop (0+0)).take (m*65)=ah (tndV B):=dtn lt
 have hk:=tnd_ok hB
 have ls:(bf U).length=k:=by rw[sortL_len,hk2]
 have dS:((ah (bf U)).drop (0+0)).take (k*65)=ah (bf U):=dtn ls
 have q:=b H hH E hE' S hS' s t a B m d ty2 (ah U) k (aH H E S []).1 (aH H E S []).2 (aH H E S (bf U)).1 (aH H E S (bf U)).2 g
 rw[aK,dS,aK] at q
 refine Runs.of_outNP ak mixed 3 [0,1,2,4,5] q ⟨rfl,rfl,hk2,by omega,rfl,by rw[aL,ls];omega,Nat.le_refl _,rfl,ls,by unfold aI;omega,hk'.sort,rfl,trivial⟩ (i5 H hH E hE' S hS' s t a B m d ty2 _ _ _ _) (by kernel_rfl) fun g=> ?_
 exact tail H hH E hE' S hS' s t a B m d ty2 _ _ (root_01 H E S _) (root_01 H E S _) g
theorem backz (hm:B.length=m) (hd:m≤d) (hB:AllL B) (hb:m≤4000000) (g:Nat→SV):aA Tryd.prog GT 1 S2 (fill g 0 (Mz H hH E hE' S hS' s t a B m d ty2)) (m0 H hH E hE' S hS' s t a B m d ty2) (ay tys fn (aR (.o (.a (int1 .i64 (chkV (aH H E S []) (E,0) s t)))) .none)):=by
 have dB:((lvals B).drop (0+0)).take (m*64)=lvals B:=dtl hm
 have lb:(lvals B).length=m*64:=by rw[←hm];exact bP B
 have lt:(tndV B).length=m:=by rw[tnd_len,hm]
 have lz:(ah (tndV B)).length=m*65:=by rw[aL,lt]
 have dT:((ah (tndV B)).drop (0+0)).take (m*65)=ah (tndV B):=dtn lt
 have hk:=tnd_ok hB
 have q:=bz H hH E hE' S hS' s t a B m d ty2 (aH H E S []).1 (aH H E S []).2 E 0 g
 refine Runs.of_outNP ak mixed 3 [0,1,2,3,4] q ⟨rfl,rfl,trivial⟩ (i5 H hH E hE' S hS' s t a B m d ty2 _ _ _ _) (by kernel_rfl) fun g=> ?_
 exact tail H hH E hE' S hS' s t a B m d ty2 (aH H E S []) (E,0) (root_01 H E S _) (.inl rfl) g
end
theorem run (H:Nd→Nd→B32) (hH:H=hV) (E:B32) (hE':E=hE) (S:Nd→B32) (hS':S=hS) (s t:B32) (a:Option Addr) (B:List Lf) (m d:Nat) (ty2:TypeId) (hm:B.length=m) (hd:m≤d) (hB:AllL B) (hb:m≤4000000):aA Tryd.prog GT 1 body (aF fn [cB32.enc s,cB32.enc t,.o (.a (.v (.slice a 0 0))),.o (.a (.sld 0 0 0 m d))]) [⟨false,ty2,.prv (lvals B)⟩] (ay tys fn (aR (.o (.a (int1 .i64 (chkT H E S s t [] B)))) .none)):=by
 have dB:((lvals B).drop (0+0)).take (m*64)=lvals B:=dtl hm
 have lb:(lvals B).length=m*64:=by rw[←hm];exact bP B
 have lt:(tndV B).length=m:=by rw[tnd_len,hm]
 have lz:(ah (tndV B)).length=m*65:=by rw[aL,lt]
 have dT:((ah (tndV B)).drop (0+0)).take (m*65)=ah (tndV B):=dtn lt
 have hk:=tnd_ok hB
 refine Runs.bC ak mixed 1 (s0 H hH E hE' S hS' s t a B m d ty2) trivial (i0 H hH E hE' S hS' s t a B m d ty2) rfl fun g=> ?_
 rw[suf_1]
 refine Runs.seq (Runs.region ?_)
 unfold chkT
 rcases Nat.eq_zero_or_pos m with h1 | h1
 ·obtain rfl:B=[]:=List.eq_nil_of_length_eq_zero (by omega)
  have q:=z H hH E hE' S hS' s t a [] m d ty2 g
  rw[dB,bG] at q
  refine aV.aN ak 6 [0,1,2] q ⟨rfl,by omega,hd,rfl,hm,by omega,hB,by omega,h1,trivial⟩ (iz H hH E hE' S hS' s t a [] m d ty2) rfl fun g=> ?_
  rw[nil0,tnd_nil,List.append_nil,show bf []=[] from List.eq_nil_of_length_eq_zero (sortL_len []),show aH H E S []=(E,0) from rfl]
  exact aV.nil (backz H hH E hE' S hS' s t a [] m d ty2 hm hd hB hb g)
 ·have q:=nw.q H hH E hE' S hS' s t a B m d ty2 g
  rw[dB,bG,dT] at q
  refine aV.aN ak 6 [0,1,2,4] q ⟨rfl,by omega,hd,rfl,hm,by omega,hB,by omega,h1,roomN m (by omega),trivial⟩ (i2 H hH E hE' S hS' s t a B m d ty2 _ _ _ _) rfl fun g=> ?_
  rw[nil0,List.nil_append]
  exact aV.nil (back H hH E hE' S hS' s t a B m d ty2 hm hd hB hb (tndV B) m hk lt (by omega) g)
end nw
namespace nn
section
variable (H:Nd→Nd→B32)
def m0 (hH:H=hV) (E:B32) (hE':E=hE) (S:Nd→B32) (hS':S=hS) (s t:B32) (a:Option Addr) (b:Option Addr):List Blk:=[⟨true,24,.lit (cB32.row s)⟩,⟨true,24,.lit (cB32.row t)⟩]
def mf (hH:H=hV) (E:B32) (hE':E=hE) (S:Nd→B32) (hS':S=hS) (s t:B32) (a:Option Addr) (b:Option Addr) (x y:B32):List Blk:=[⟨true,24,.lit (cB32.row s)⟩,⟨true,24,.lit (cB32.row t)⟩,⟨true,24,.lit (cB32.row x)⟩,⟨true,24,.lit (cB32.row y)⟩]
def M0 (hH:H=hV) (E:B32) (hE':E=hE) (S:Nd→B32) (hS':S=hS) (s t:B32) (a:Option Addr) (b:Option Addr):List (Option SV):=aD 47 0 [(2,.o (.a (.v (.slice a 0 0)))),(3,.o (.a (.v (.slice b 0 0)))),(4,.o (.a (.ptr 0 0))),(5,.o (.a (.ptr 1 0)))]
theorem i0 (hH:H=hV) (E:B32) (hE':E=hE) (S:Nd→B32) (hS':S=hS) (s t:B32) (a:Option Addr) (b:Option Addr):aC (m0 H hH E hE' S hS' s t a b ).length (M0 H hH E hE' S hS' s t a b ) (m0 H hH E hE' S hS' s t a b )=true:=by kernel_rfl
def Mz (hH:H=hV) (E:B32) (hE':E=hE) (S:Nd→B32) (hS':S=hS) (s t:B32) (a:Option Addr) (b:Option Addr):List (Option SV):=aD 47 0 [(2,.o (.a (.v (.slice a 0 0)))),(4,.o (.a (.ptr 0 0))),(5,.o (.a (.ptr 1 0))),(9,.o (.a (.v (.slice none 0 0))))]
theorem iz (hH:H=hV) (E:B32) (hE':E=hE) (S:Nd→B32) (hS':S=hS) (s t:B32) (a:Option Addr) (b:Option Addr):aC (m0 H hH E hE' S hS' s t a b ).length (Mz H hH E hE' S hS' s t a b ) (m0 H hH E hE' S hS' s t a b )=true:=by kernel_rfl
def M5 (hH:H=hV) (E:B32) (hE':E=hE) (S:Nd→B32) (hS':S=hS) (s t:B32) (a:Option Addr) (b:Option Addr) (e f:Int):List (Option SV):=aD 47 0 [(4,.o (.a (.ptr 0 0))),(5,.o (.a (.ptr 1 0))),(10,.o (.a (.ptr 2 0))),(11,.o (.a (int1 .i64 e))),(12,.o (.a (.ptr 3 0))),(13,.o (.a (int1 .i64 f)))]
theorem i5 (hH:H=hV) (E:B32) (hE':E=hE) (S:Nd→B32) (hS':S=hS) (s t:B32) (a:Option Addr) (b:Option Addr) (e f:Int) (x y:B32):aC (mf H hH E hE' S hS' s t a b x y).length (M5 H hH E hE' S hS' s t a b e f) (mf H hH E hE' S hS' s t a b x y)=true:=by kernel_rfl
def MR (hH:H=hV) (E:B32) (hE':E=hE) (S:Nd→B32) (hS':S=hS) (s t:B32) (a:Option Addr) (b:Option Addr) (e:Int):List (Option SV):=aD 47 0 [(8,.o (.a (int1 .i64 e)))]
def mo (hH:H=hV) (E:B32) (hE':E=hE) (S:Nd→B32) (hS':S=hS) (s t:B32) (a:Option Addr) (b:Option Addr):List Blk:=[]
theorem iR (hH:H=hV) (E:B32) (hE':E=hE) (S:Nd→B32) (hS':S=hS) (s t:B32) (a:Option Addr) (b:Option Addr) (e:Int):aC (mo H hH E hE' S hS' s t a b ).length (MR H hH E hE' S hS' s t a b e) (mo H hH E hE' S hS' s t a b )=true:=by kernel_rfl
theorem s0 (hH:H=hV) (E:B32) (hE':E=hE) (S:Nd→B32) (hS':S=hS) (s t:B32) (a:Option Addr) (b:Option Addr):outX (m0 H hH E hE' S hS' s t a b ).length (M0 H hH E hE' S hS' s t a b ) (exec Γ1 tys 300 (cpre 1 body) ⟨aF fn [cB32.enc s,cB32.enc t,.o (.a (.v (.slice a 0 0))),.o (.a (.v (.slice b 0 0)))],[],[]⟩)=some (.normal,live (M0 H hH E hE' S hS' s t a b ),(M0 H hH E hE' S hS' s t a b ).length,m0 H hH E hE' S hS' s t a b ,[]):=by kernel_rfl
theorem z (hH:H=hV) (E:B32) (hE':E=hE) (S:Nd→B32) (hS':S=hS) (s t:B32) (a:Option Addr) (b:Option Addr) (g:Nat→SV):outNL [0,1] (Mz H hH E hE' S hS' s t a b ) (bI Γ1 tys (opsOf R1).toList (((opsOf R1).toList.drop 0).take 6) ⟨fill g 0 (M0 H hH E hE' S hS' s t a b ),m0 H hH E hE' S hS' s t a b ,[(15,[.dyn]),(18,[.dyn])]⟩)=some ((live (Mz H hH E hE' S hS' s t a b )).map (SV.ren (piF [0,1])),(Mz H hH E hE' S hS' s t a b ).length,(m0 H hH E hE' S hS' s t a b ).map (fun b=>some (b.ren (piF [0,1]))),[0=0,0+0+0*65≤(ah (tndV [])).length,0=0]):=by kernel_rfl
theorem bz (hH:H=hV) (E:B32) (hE':E=hE) (S:Nd→B32) (hS':S=hS) (s t:B32) (a:Option Addr) (b:Option Addr) (x:B32) (e:Int) (y:B32) (f:Int) (g:Nat→SV):outN [0,1,2,3] (M5 H hH E hE' S hS' s t a b e f) (exec (Γ2 H hH E hE' S hS' ) tys 100 (cpre 3 S2) ⟨fill g 0 (Mz H hH E hE' S hS' s t a b ),m0 H hH E hE' S hS' s t a b ,[(23,[.s (hsS (x,e))]),(28,[.s (hsS (y,f))])]⟩)=some (.normal,(live (M5 H hH E hE' S hS' s t a b e f)).map (SV.ren (piF [0,1,2,3])),(M5 H hH E hE' S hS' s t a b e f).length,(mf H hH E hE' S hS' s t a b x y).map (fun b=>some (b.ren (piF [0,1,2,3]))),[hsS (E,0)=hsS (x,e),hsS (E,0)=hsS (y,f)]):=by kernel_rfl
theorem t1 (hH:H=hV) (E:B32) (hE':E=hE) (S:Nd→B32) (hS':S=hS) (s t:B32) (a:Option Addr) (b:Option Addr) (x y:B32) (f:Int) (g:Nat→SV):outX (mo H hH E hE' S hS' s t a b ).length (MR H hH E hE' S hS' s t a b 1) (exec Γ1 tys 300 T ⟨fill g 0 (M5 H hH E hE' S hS' s t a b 1 f),mf H hH E hE' S hS' s t a b x y,[]⟩)=some (.ret,live (MR H hH E hE' S hS' s t a b 1),(MR H hH E hE' S hS' s t a b 1).length,mo H hH E hE' S hS' s t a b ,[]):=by kernel_rfl
theorem t2 (hH:H=hV) (E:B32) (hE':E=hE) (S:Nd→B32) (hS':S=hS) (s t:B32) (a:Option Addr) (b:Option Addr) (x y:B32) (g:Nat→SV):outX (mo H hH E hE' S hS' s t a b ).length (MR H hH E hE' S hS' s t a b 1) (exec Γ1 tys 300 T ⟨fill g 0 (M5 H hH E hE' S hS' s t a b 0 1),mf H hH E hE' S hS' s t a b x y,[]⟩)=some (.ret,live (MR H hH E hE' S hS' s t a b 1),(MR H hH E hE' S hS' s t a b 1).length,mo H hH E hE' S hS' s t a b ,[]):=by kernel_rfl
theorem t3 (hH:H=hV) (E:B32) (hE':E=hE) (S:Nd→B32) (hS':S=hS) (s t:B32) (a:Option Addr) (b:Option Addr) (x y:B32) (g:Nat→SV):outX (mo H hH E hE' S hS' s t a b ).length (MR H hH E hE' S hS' s t a b 3) (exec Γ1 tys 300 T ⟨fill g 0 (M5 H hH E hE' S hS' s t a b 0 0),mf H hH E hE' S hS' s t a b x y,[(41,[.b true])]⟩)=some (.ret,live (MR H hH E hE' S hS' s t a b 3),(MR H hH E hE' S hS' s t a b 3).length,mo H hH E hE' S hS' s t a b ,[(!eqL x.to s.to)=true]):=by kernel_rfl
theorem t4 (hH:H=hV) (E:B32) (hE':E=hE) (S:Nd→B32) (hS':S=hS) (s t:B32) (a:Option Addr) (b:Option Addr) (x y:B32) (g:Nat→SV):outX (mo H hH E hE' S hS' s t a b ).length (MR H hH E hE' S hS' s t a b 3) (exec Γ1 tys 300 T ⟨fill g 0 (M5 H hH E hE' S hS' s t a b 0 0),mf H hH E hE' S hS' s t a b x y,[(41,[.b false]),(45,[.b true])]⟩)=some (.ret,live (MR H hH E hE' S hS' s t a b 3),(MR H hH E hE' S hS' s t a b 3).length,mo H hH E hE' S hS' s t a b ,[(!eqL x.to s.to)=false,(!eqL y.to t.to)=true]):=by kernel_rfl
theorem t5 (hH:H=hV) (E:B32) (hE':E=hE) (S:Nd→B32) (hS':S=hS) (s t:B32) (a:Option Addr) (b:Option Addr) (x y:B32) (g:Nat→SV):outX (mo H hH E hE' S hS' s t a b ).length (MR H hH E hE' S hS' s t a b 0) (exec Γ1 tys 300 T ⟨fill g 0 (M5 H hH E hE' S hS' s t a b 0 0),mf H hH E hE' S hS' s t a b x y,[(41,[.b false]),(45,[.b false])]⟩)=some (.ret,live (MR H hH E hE' S hS' s t a b 0),(MR H hH E hE' S hS' s t a b 0).length,mo H hH E hE' S hS' s t a b ,[(!eqL x.to s.to)=false,(!eqL y.to t.to)=false]):=by kernel_rfl
theorem zr (hH:H=hV) (E:B32) (hE':E=hE) (S:Nd→B32) (hS':S=hS) (s t:B32) (a:Option Addr) (b:Option Addr) (e:Int) (mm:Nat→Option Blk) (g:Nat→SV):eRes tys (fill g 0 (MR H hH E hE' S hS' s t a b e)) mm fn.results.toList=some [.a (int1 .i64 e)]:=by kernel_rfl
theorem tail (hH:H=hV) (E:B32) (hE':E=hE) (S:Nd→B32) (hS':S=hS) (s t:B32) (a:Option Addr) (b:Option Addr) (x y:B32 × Int) (hx:x.2=0∨x.2=1) (hy:y.2=0∨y.2=1) (g:Nat→SV):aA Tryd.prog GT 0 T (fill g 0 (M5 H hH E hE' S hS' s t a b x.2 y.2)) (mf H hH E hE' S hS' s t a b x.1 y.1) (ay tys fn (aR (.o (.a (int1 .i64 (chkV x y s t)))) .none)):=by
 obtain⟨x,e⟩:=x
 obtain⟨y,f⟩:=y
 rcases hx with rfl | rfl
 ·rcases hy with rfl | rfl
  ·cases h1:eqL x.to s.to with
   | false=>
    refine Runs.av ak mixed (t3 H hH E hE' S hS' s t a b x y g) ⟨by rw[h1];rfl,trivial⟩ (iR H hH E hE' S hS' s t a b _) rfl fun g=>ay.ret (zr H hH E hE' S hS' s t a b _ _ g) ?_
    unfold chkV;rw[h1];rfl
   | true=>
    cases h2:eqL y.to t.to with
    | false=>
     refine Runs.av ak mixed (t4 H hH E hE' S hS' s t a b x y g) ⟨by rw[h1];rfl,by rw[h2];rfl,trivial⟩ (iR H hH E hE' S hS' s t a b _) rfl fun g=>ay.ret (zr H hH E hE' S hS' s t a b _ _ g) ?_
     unfold chkV;rw[h1,h2];rfl
    | true=>
     refine Runs.av ak mixed (t5 H hH E hE' S hS' s t a b x y g) ⟨by rw[h1];rfl,by rw[h2];rfl,trivial⟩ (iR H hH E hE' S hS' s t a b _) rfl fun g=>ay.ret (zr H hH E hE' S hS' s t a b _ _ g) ?_
     unfold chkV;rw[h1,h2];rfl
  ·exact Runs.av ak mixed (t2 H hH E hE' S hS' s t a b x y g) trivial (iR H hH E hE' S hS' s t a b _) rfl fun g=>ay.ret (zr H hH E hE' S hS' s t a b _ _ g) rfl
 ·exact Runs.av ak mixed (t1 H hH E hE' S hS' s t a b x y f g) trivial (iR H hH E hE' S hS' s t a b _) rfl fun g=>ay.ret (zr H hH E hE' S hS' s t a b _ _ g) rfl
theorem backz (hH:H=hV) (E:B32) (hE':E=hE) (S:Nd→B32) (hS':S=hS) (s t:B32) (a:Option Addr) (b:Option Addr) (g:Nat→SV):aA Tryd.prog GT 0 S2 (fill g 0 (Mz H hH E hE' S hS' s t a b)) (m0 H hH E hE' S hS' s t a b) (ay tys fn (aR (.o (.a (int1 .i64 (chkV (aH H E S []) (E,0) s t)))) .none)):=by
 have q:=bz H hH E hE' S hS' s t a b (aH H E S []).1 (aH H E S []).2 E 0 g
 refine Runs.of_outNP ak mixed 3 [0,1,2,3] q ⟨rfl,rfl,trivial⟩ (i5 H hH E hE' S hS' s t a b _ _ _ _) (by kernel_rfl) fun g=> ?_
 exact tail H hH E hE' S hS' s t a b (aH H E S []) (E,0) (root_01 H E S _) (.inl rfl) g
theorem run (hH:H=hV) (E:B32) (hE':E=hE) (S:Nd→B32) (hS':S=hS) (s t:B32) (a:Option Addr) (b:Option Addr):aA Tryd.prog GT 0 body (aF fn [cB32.enc s,cB32.enc t,.o (.a (.v (.slice a 0 0))),.o (.a (.v (.slice b 0 0)))]) [] (ay tys fn (aR (.o (.a (int1 .i64 (chkT H E S s t [] [])))) .none)):=by
 refine Runs.bC ak mixed 1 (s0 H hH E hE' S hS' s t a b) trivial (i0 H hH E hE' S hS' s t a b) rfl fun g=> ?_
 rw[suf_1]
 refine Runs.seq (Runs.region ?_)
 unfold chkT
 refine aV.aN ak 6 [0,1] (z H hH E hE' S hS' s t a b g) ⟨rfl,by omega,rfl,trivial⟩ (iz H hH E hE' S hS' s t a b) rfl fun g=> ?_
 rw[nil0,tnd_nil,List.append_nil,show bf []=[] from List.eq_nil_of_length_eq_zero (sortL_len []),show aH H E S []=(E,0) from rfl]
 exact aV.nil (backz H hH E hE' S hS' s t a b g)
end
end nn
noncomputable def spec (H:Nd→Nd→B32) (E:B32) (S:Nd→B32):List PArg→Option (SV × LEff × Cst)
 | [.val u,.val v,.winv _ vs n ty,.winv _ ws m ty2]=>match cB32.dec u,cB32.dec v with
  | some s,some t=>some (.o (.a (int1 .i64 (chkT H E S s t (aj vs) (au ws)))),.none,[vs=ah (aj vs),(aj vs).length=n,aB (aj vs),ws=lvals (au ws),(au ws).length=m,AllL (au ws),n+m≤4000000])
  | _,_=>none
 | [.val u,.val v,.val (.o (.a (.v (.slice a 0 0)))),.winv _ ws m ty2]=>match cB32.dec u,cB32.dec v with
  | some s,some t=>some (.o (.a (int1 .i64 (chkT H E S s t [] (au ws)))),.none,[ws=lvals (au ws),(au ws).length=m,AllL (au ws),m≤4000000])
  | _,_=>none
 | [.val u,.val v,.val (.o (.a (.v (.slice a 0 0)))),.val (.o (.a (.v (.slice b 0 0))))]=>match cB32.dec u,cB32.dec v with
  | some s,some t=>some (.o (.a (int1 .i64 (chkT H E S s t [] []))),.none,[])
  | _,_=>none
 | _=>none
noncomputable def con (H:Nd→Nd→B32) (hH:H=hV) (E:B32) (hE':E=hE) (S:Nd→B32) (hS':S=hS):Con Tryd.prog GT:=Con.parts ak 46 fn Tryd.func46 (by kernel_rfl) (c:=body) (by kernel_rfl) [.val,.val,.winv 65,.winv 64] (spec H E S)
 (fun ps r e p h hp=>by
  unfold spec at h
  split at h
  ·split at h<;>cases h
   exact⟨rfl,fun b hb=>by simp only[aP,PArg.blk,List.append_nil,List.nil_append,List.cons_append,List.mem_cons,List.not_mem_nil,or_false] at hb;rcases hb with rfl | rfl<;>rfl⟩
  ·split at h<;>cases h
   exact⟨rfl,fun b hb=>by simp only[aP,PArg.blk,List.append_nil,List.nil_append,List.mem_singleton] at hb;rw[hb]⟩
  ·split at h<;>cases h
   exact⟨rfl,fun b hb=>by simp[aP,PArg.blk] at hb⟩
  ·cases h)
 (fun ps r e p cap h hp hi=>by
  unfold spec at h
  split at h
  ·rename_i u v s1 vs n ty s2 ws m ty2
   split at h<;>cases h
   rename_i s t k1 k2
   have e1:=cB32.ok _ _ k1
   have e2:=cB32.ok _ _ k2
   subst e1 e2
   obtain⟨p1,p2,p3,q1,q2,q3,hb,_⟩:=hp
   obtain⟨_,_,⟨_,hc1⟩,⟨_,hc2⟩,_⟩:=hi
   rcases Nat.eq_zero_or_pos n with h0 | h0
   ·have q:=zw.run H hH E hE' S hS' s t (aj vs) n (cap 0) ty (au ws) m (cap 1) ty2 p2 hc1 p3 q2 hc2 q3 hb h0
    rw[←p1,←q1] at q
    exact q
   ·have q:=pw.run H hH E hE' S hS' s t (aj vs) n (cap 0) ty (au ws) m (cap 1) ty2 p2 hc1 p3 q2 hc2 q3 hb h0
    rw[←p1,←q1] at q
    exact q
  ·rename_i u v a s2 ws m ty2
   split at h<;>cases h
   rename_i s t k1 k2
   have e1:=cB32.ok _ _ k1
   have e2:=cB32.ok _ _ k2
   subst e1 e2
   obtain⟨q1,q2,q3,hb,_⟩:=hp
   obtain⟨_,_,_,⟨_,hc2⟩,_⟩:=hi
   have q:=nw.run H hH E hE' S hS' s t a (au ws) m (cap 0) ty2 q2 hc2 q3 hb
   rw[←q1] at q
   exact q
  ·rename_i u v a b
   split at h<;>cases h
   rename_i s t k1 k2
   have e1:=cB32.ok _ _ k1
   have e2:=cB32.ok _ _ k2
   subst e1 e2
   exact nn.run H hH E hE' S hS' s t a b
  ·cases h)
noncomputable def spec0 (H:Nd→Nd→B32) (E:B32) (S:Nd→B32):List PArg→Option (SV × LEff × Cst)
 | [.val u,.val v,.val (.o (.a (.v (.slice a 0 0)))),.val (.o (.a (.v (.slice b 0 0))))]=>match cB32.dec u,cB32.dec v with
  | some s,some t=>some (.o (.a (int1 .i64 (chkT H E S s t [] []))),.none,[])
  | _,_=>none
 | _=>none
noncomputable def con0 (H:Nd→Nd→B32) (hH:H=hV) (E:B32) (hE':E=hE) (S:Nd→B32) (hS':S=hS):Con Tryd.prog GT:=Con.parts ak 46 fn Tryd.func46 (by kernel_rfl) (c:=body) (by kernel_rfl) [.val,.val,.winv 65,.winv 64] (spec0 H E S)
 (fun ps r e p h hp=>by
  unfold spec0 at h
  split at h
  ·split at h<;>cases h
   exact⟨rfl,fun b hb=>by simp[aP,PArg.blk] at hb⟩
  ·cases h)
 (fun ps r e p cap h hp hi=>by
  unfold spec0 at h
  split at h
  ·rename_i u v a b
   split at h<;>cases h
   rename_i s t k1 k2
   have e1:=cB32.ok _ _ k1
   have e2:=cB32.ok _ _ k2
   subst e1 e2
   exact nn.run H hH E hE' S hS' s t a b
  ·cases h)
end gck
end Go.Proofs.YtdccehmekkcheaaDoor
