/- Relink of both sides: walks, contracts. -/
import Derived.Test.YtdccehmekkcheaaDoorLLk
import Derived.Test.YtdccehmekkcheaaDoorLGkF
import Derived.Test.YtdccehmekkcheaaDoorLDsF
namespace Go.Proofs.YtdccehmekkcheaaDoor
open Go Go.Eng Go.RowKit
set_option linter.unusedVariables false
set_option linter.unusedSimpArgs false
set_option maxRecDepth 100000
theorem rof_01 (H:Nd→Nd→B32) (E:B32) (S:Nd→B32) (l:List Lf):(rofT H E S l).2=0∨(rofT H E S l).2=1:=root_01 H E S _
noncomputable def relV (H:Nd→Nd→B32) (E:B32) (S:Nd→B32) (s t:B32) (l:List Lk):Int:=chkV (rofT H E S (olds l)) (rofT H E S (news l)) s t
namespace grl
noncomputable abbrev fn:=Tryd.f52
noncomputable def body:Code:=bq fn
noncomputable def A2:Code:=cs1 (cs1 (csuf 2 body))
noncomputable def L:Code:=cL (cB (cs2 (cs1 (csuf 2 body))))
noncomputable def S3:Code:=cs2 (csuf 2 body)
noncomputable def T:Code:=csuf 2 S3
theorem bE:csuf 2 body= .seq (.seq A2 (.block 0 (.loop L))) S3:=by kernel_rfl
section
variable (H:Nd→Nd→B32)
noncomputable def Γ (hH:H=hV) (E:B32) (hE':E=hE) (S:Nd→B32) (hS':S=hS):Cons Tryd.prog GT:=[trof.con H hH E hE' S hS' ]
def ms (hH:H=hV) (E:B32) (hE':E=hE) (S:Nd→B32) (hS':S=hS) (s t:B32) (l:List Lk) (n c:Nat) (ty:TypeId) (us vs:List Value):List Blk:=[⟨false,ty,.prv (aD l)⟩,⟨true,24,.lit (cB32.row s)⟩,⟨true,24,.lit (cB32.row t)⟩,⟨true,30,.grv 64 us n none⟩,⟨true,30,.grv 64 vs n none⟩]
def M0 (hH:H=hV) (E:B32) (hE':E=hE) (S:Nd→B32) (hS':S=hS) (s t:B32) (l:List Lk) (n c:Nat) (ty:TypeId):List (Option SV):=aC 71 0 [(2,.o (.a (.sld 0 0 0 n c))),(3,.o (.a (.ptr 1 0))),(4,.o (.a (.ptr 2 0))),(7,.o (.a (.slg 3 n))),(8,.o (.a (.slg 4 n)))]
def M1 (hH:H=hV) (E:B32) (hE':E=hE) (S:Nd→B32) (hS':S=hS) (s t:B32) (l:List Lk) (n c:Nat) (ty:TypeId) (j:Int):List (Option SV):=aC 71 0 [(3,.o (.a (.ptr 1 0))),(4,.o (.a (.ptr 2 0))),(7,.o (.a (.slg 3 n))),(8,.o (.a (.slg 4 n))),(21,.o (.a (.sld 0 0 0 n c))),(22,.o (.a (int1 .i64 n))),(23,.o (.a (int1 .i64 j)))]
def M2 (hH:H=hV) (E:B32) (hE':E=hE) (S:Nd→B32) (hS':S=hS) (s t:B32) (l:List Lk) (n c:Nat) (ty:TypeId):List (Option SV):=aC 71 0 [(3,.o (.a (.ptr 1 0))),(4,.o (.a (.ptr 2 0))),(7,.o (.a (.slg 3 n))),(8,.o (.a (.slg 4 n)))]
theorem i0 (hH:H=hV) (E:B32) (hE':E=hE) (S:Nd→B32) (hS':S=hS) (s t:B32) (l:List Lk) (n c:Nat) (ty:TypeId) (us vs:List Value):aA (ms H hH E hE' S hS' s t l n c ty us vs).length (M0 H hH E hE' S hS' s t l n c ty ) (ms H hH E hE' S hS' s t l n c ty us vs)=true:=by kernel_rfl
theorem i1 (hH:H=hV) (E:B32) (hE':E=hE) (S:Nd→B32) (hS':S=hS) (s t:B32) (l:List Lk) (n c:Nat) (ty:TypeId) (us vs:List Value) (j:Int):aA (ms H hH E hE' S hS' s t l n c ty us vs).length (M1 H hH E hE' S hS' s t l n c ty j) (ms H hH E hE' S hS' s t l n c ty us vs)=true:=by kernel_rfl
theorem i2 (hH:H=hV) (E:B32) (hE':E=hE) (S:Nd→B32) (hS':S=hS) (s t:B32) (l:List Lk) (n c:Nat) (ty:TypeId) (us vs:List Value):aA (ms H hH E hE' S hS' s t l n c ty us vs).length (M2 H hH E hE' S hS' s t l n c ty ) (ms H hH E hE' S hS' s t l n c ty us vs)=true:=by kernel_rfl
theorem s0 (hH:H=hV) (E:B32) (hE':E=hE) (S:Nd→B32) (hS':S=hS) (s t:B32) (l:List Lk) (n c:Nat) (ty:TypeId):outN [0,1,2,3,4] (M0 H hH E hE' S hS' s t l n c ty ) (exec (Γ H hH E hE' S hS' ) tys 100 (cpre 2 body) ⟨aF fn [cB32.enc s,cB32.enc t,.o (.a (.sld 0 0 0 n c))],[⟨false,ty,.prv (aD l)⟩],[]⟩)=some (.normal,(live (M0 H hH E hE' S hS' s t l n c ty )).map (SV.ren (piF [0,1,2,3,4])),(M0 H hH E hE' S hS' s t l n c ty ).length,(ms H hH E hE' S hS' s t l n c ty (repV zl.vals n) (repV zl.vals n)).map (fun b=>some (b.ren (piF [0,1,2,3,4]))),[0≤(n:Int),(n:Int)=n,Room Tryd.prog 30 n,0≤(n:Int),(n:Int)=n,Room Tryd.prog 30 n]):=by kernel_rfl
theorem a1 (hH:H=hV) (E:B32) (hE':E=hE) (S:Nd→B32) (hS':S=hS) (s t:B32) (l:List Lk) (n c:Nat) (ty:TypeId) (us vs:List Value) (g:Nat→SV):outX (ms H hH E hE' S hS' s t l n c ty us vs).length (M1 H hH E hE' S hS' s t l n c ty 0) (exec (Γ H hH E hE' S hS' ) tys 300 A2 ⟨fill g 0 (M0 H hH E hE' S hS' s t l n c ty ),ms H hH E hE' S hS' s t l n c ty us vs,[]⟩)=some (.normal,live (M1 H hH E hE' S hS' s t l n c ty 0),(M1 H hH E hE' S hS' s t l n c ty 0).length,ms H hH E hE' S hS' s t l n c ty us vs,[]):=by kernel_rfl
theorem stp (hH:H=hV) (E:B32) (hE':E=hE) (S:Nd→B32) (hS':S=hS) (s t:B32) (l:List Lk) (n c:Nat) (ty:TypeId) (us vs:List Value) (j j':Int) (x:Lk) (g:Nat→SV):outN [0,1,2,3,4] (M1 H hH E hE' S hS' s t l n c ty j') (exec (Γ H hH E hE' S hS' ) tys 100 L ⟨fill g 0 (M1 H hH E hE' S hS' s t l n c ty j),ms H hH E hE' S hS' s t l n c ty us vs,[(24,[.b true]),(27,[.ds (cLk.enc x)]),(44,[.n j'])]⟩)=some (.normal,(live (M1 H hH E hE' S hS' s t l n c ty j')).map (SV.ren (piF [0,1,2,3,4])),(M1 H hH E hE' S hS' s t l n c ty j').length,(ms H hH E hE' S hS' s t l n c ty (putV (0+offI 0 j 64) (oldL x).vals us) (putV (0+offI 0 j 64) (newL x).vals vs)).map (fun b=>some (b.ren (piF [0,1,2,3,4]))),[decide (j<n)=true,0≤j,j<n,0+offI 0 j 96+96≤(aD l).length,SV.o (.g (aL (aD l) (0+offI 0 j 96) 96))=cLk.enc x,0≤j,j<n,0+offI 0 j 64+64≤us.length,0≤j,j<n,0+offI 0 j 64+64≤vs.length,IntKind.i64.wrap (j+1)=j']):=by kernel_rfl
theorem out (hH:H=hV) (E:B32) (hE':E=hE) (S:Nd→B32) (hS':S=hS) (s t:B32) (l:List Lk) (n c:Nat) (ty:TypeId) (us vs:List Value) (j:Int) (g:Nat→SV):outX (ms H hH E hE' S hS' s t l n c ty us vs).length (M2 H hH E hE' S hS' s t l n c ty ) (exec (Γ H hH E hE' S hS' ) tys 300 L ⟨fill g 0 (M1 H hH E hE' S hS' s t l n c ty j),ms H hH E hE' S hS' s t l n c ty us vs,[(24,[.b false])]⟩)=some ((.exit 0),live (M2 H hH E hE' S hS' s t l n c ty ),(M2 H hH E hE' S hS' s t l n c ty ).length,ms H hH E hE' S hS' s t l n c ty us vs,[decide (j<n)=false]):=by kernel_rfl
def mo (hH:H=hV) (E:B32) (hE':E=hE) (S:Nd→B32) (hS':S=hS) (s t:B32) (l:List Lk) (n c:Nat) (ty:TypeId):List Blk:=[⟨false,ty,.prv (aD l)⟩]
def mf (hH:H=hV) (E:B32) (hE':E=hE) (S:Nd→B32) (hS':S=hS) (s t:B32) (l:List Lk) (n c:Nat) (ty:TypeId) (x y:B32):List Blk:=[⟨false,ty,.prv (aD l)⟩,⟨true,24,.lit (cB32.row s)⟩,⟨true,24,.lit (cB32.row t)⟩,⟨true,24,.lit (cB32.row x)⟩,⟨true,24,.lit (cB32.row y)⟩]
def MR (hH:H=hV) (E:B32) (hE':E=hE) (S:Nd→B32) (hS':S=hS) (s t:B32) (l:List Lk) (n c:Nat) (ty:TypeId) (e:Int):List (Option SV):=aC 71 0 [(6,.o (.a (int1 .i64 e)))]
theorem iR (hH:H=hV) (E:B32) (hE':E=hE) (S:Nd→B32) (hS':S=hS) (s t:B32) (l:List Lk) (n c:Nat) (ty:TypeId) (e:Int):aA (mo H hH E hE' S hS' s t l n c ty ).length (MR H hH E hE' S hS' s t l n c ty e) (mo H hH E hE' S hS' s t l n c ty )=true:=by kernel_rfl
def M5 (hH:H=hV) (E:B32) (hE':E=hE) (S:Nd→B32) (hS':S=hS) (s t:B32) (l:List Lk) (n c:Nat) (ty:TypeId) (e f:Int):List (Option SV):=aC 71 0 [(3,.o (.a (.ptr 1 0))),(4,.o (.a (.ptr 2 0))),(11,.o (.a (.ptr 3 0))),(12,.o (.a (int1 .i64 e))),(13,.o (.a (.ptr 4 0))),(14,.o (.a (int1 .i64 f)))]
theorem i5 (hH:H=hV) (E:B32) (hE':E=hE) (S:Nd→B32) (hS':S=hS) (s t:B32) (l:List Lk) (n c:Nat) (ty:TypeId) (e f:Int) (x y:B32):aA (mf H hH E hE' S hS' s t l n c ty x y).length (M5 H hH E hE' S hS' s t l n c ty e f) (mf H hH E hE' S hS' s t l n c ty x y)=true:=by kernel_rfl
theorem t1 (hH:H=hV) (E:B32) (hE':E=hE) (S:Nd→B32) (hS':S=hS) (s t:B32) (l:List Lk) (n c:Nat) (ty:TypeId) (x y:B32) (f:Int) (g:Nat→SV):outX (mo H hH E hE' S hS' s t l n c ty ).length (MR H hH E hE' S hS' s t l n c ty 1) (exec ([]:Cons Tryd.prog GT) tys 300 T ⟨fill g 0 (M5 H hH E hE' S hS' s t l n c ty 1 f),mf H hH E hE' S hS' s t l n c ty x y,[]⟩)=some (.ret,live (MR H hH E hE' S hS' s t l n c ty 1),(MR H hH E hE' S hS' s t l n c ty 1).length,mo H hH E hE' S hS' s t l n c ty ,[]):=by kernel_rfl
theorem t2 (hH:H=hV) (E:B32) (hE':E=hE) (S:Nd→B32) (hS':S=hS) (s t:B32) (l:List Lk) (n c:Nat) (ty:TypeId) (x y:B32) (g:Nat→SV):outX (mo H hH E hE' S hS' s t l n c ty ).length (MR H hH E hE' S hS' s t l n c ty 1) (exec ([]:Cons Tryd.prog GT) tys 300 T ⟨fill g 0 (M5 H hH E hE' S hS' s t l n c ty 0 1),mf H hH E hE' S hS' s t l n c ty x y,[]⟩)=some (.ret,live (MR H hH E hE' S hS' s t l n c ty 1),(MR H hH E hE' S hS' s t l n c ty 1).length,mo H hH E hE' S hS' s t l n c ty ,[]):=by kernel_rfl
theorem t3 (hH:H=hV) (E:B32) (hE':E=hE) (S:Nd→B32) (hS':S=hS) (s t:B32) (l:List Lk) (n c:Nat) (ty:TypeId) (x y:B32) (g:Nat→SV):outX (mo H hH E hE' S hS' s t l n c ty ).length (MR H hH E hE' S hS' s t l n c ty 3) (exec ([]:Cons Tryd.prog GT) tys 300 T ⟨fill g 0 (M5 H hH E hE' S hS' s t l n c ty 0 0),mf H hH E hE' S hS' s t l n c ty x y,[(65,[.b true])]⟩)=some (.ret,live (MR H hH E hE' S hS' s t l n c ty 3),(MR H hH E hE' S hS' s t l n c ty 3).length,mo H hH E hE' S hS' s t l n c ty ,[(!eqL x.to s.to)=true]):=by kernel_rfl
theorem t4 (hH:H=hV) (E:B32) (hE':E=hE) (S:Nd→B32) (hS':S=hS) (s t:B32) (l:List Lk) (n c:Nat) (ty:TypeId) (x y:B32) (g:Nat→SV):outX (mo H hH E hE' S hS' s t l n c ty ).length (MR H hH E hE' S hS' s t l n c ty 3) (exec ([]:Cons Tryd.prog GT) tys 300 T ⟨fill g 0 (M5 H hH E hE' S hS' s t l n c ty 0 0),mf H hH E hE' S hS' s t l n c ty x y,[(65,[.b false]),(69,[.b true])]⟩)=some (.ret,live (MR H hH E hE' S hS' s t l n c ty 3),(MR H hH E hE' S hS' s t l n c ty 3).length,mo H hH E hE' S hS' s t l n c ty ,[(!eqL x.to s.to)=false,(!eqL y.to t.to)=true]):=by kernel_rfl
theorem t5 (hH:H=hV) (E:B32) (hE':E=hE) (S:Nd→B32) (hS':S=hS) (s t:B32) (l:List Lk) (n c:Nat) (ty:TypeId) (x y:B32) (g:Nat→SV):outX (mo H hH E hE' S hS' s t l n c ty ).length (MR H hH E hE' S hS' s t l n c ty 0) (exec ([]:Cons Tryd.prog GT) tys 300 T ⟨fill g 0 (M5 H hH E hE' S hS' s t l n c ty 0 0),mf H hH E hE' S hS' s t l n c ty x y,[(65,[.b false]),(69,[.b false])]⟩)=some (.ret,live (MR H hH E hE' S hS' s t l n c ty 0),(MR H hH E hE' S hS' s t l n c ty 0).length,mo H hH E hE' S hS' s t l n c ty ,[(!eqL x.to s.to)=false,(!eqL y.to t.to)=false]):=by kernel_rfl
theorem zr (hH:H=hV) (E:B32) (hE':E=hE) (S:Nd→B32) (hS':S=hS) (s t:B32) (l:List Lk) (n c:Nat) (ty:TypeId) (e:Int) (mm:Nat→Option Blk) (g:Nat→SV):eRes tys (fill g 0 (MR H hH E hE' S hS' s t l n c ty e)) mm fn.results.toList=some [.a (int1 .i64 e)]:=by kernel_rfl
theorem tail (hH:H=hV) (E:B32) (hE':E=hE) (S:Nd→B32) (hS':S=hS) (s t:B32) (l:List Lk) (n c:Nat) (ty:TypeId) (x y:B32 × Int) (hx:x.2=0∨x.2=1) (hy:y.2=0∨y.2=1) (g:Nat→SV):av Tryd.prog GT 1 T (fill g 0 (M5 H hH E hE' S hS' s t l n c ty x.2 y.2)) (mf H hH E hE' S hS' s t l n c ty x.1 y.1) (aB tys fn (aR (.o (.a (int1 .i64 (chkV x y s t)))) .none)):=by
 obtain⟨x,e⟩:=x
 obtain⟨y,f⟩:=y
 rcases hx with rfl | rfl
 ·rcases hy with rfl | rfl
  ·cases h1:eqL x.to s.to with
   | false=>
    refine Runs.au aj mixed (t3 H hH E hE' S hS' s t l n c ty x y g) ⟨by rw[h1];rfl,trivial⟩ (iR H hH E hE' S hS' s t l n c ty _) rfl fun g=>aB.ret (zr H hH E hE' S hS' s t l n c ty _ _ g) ?_
    unfold chkV;rw[h1];rfl
   | true=>
    cases h2:eqL y.to t.to with
    | false=>
     refine Runs.au aj mixed (t4 H hH E hE' S hS' s t l n c ty x y g) ⟨by rw[h1];rfl,by rw[h2];rfl,trivial⟩ (iR H hH E hE' S hS' s t l n c ty _) rfl fun g=>aB.ret (zr H hH E hE' S hS' s t l n c ty _ _ g) ?_
     unfold chkV;rw[h1,h2];rfl
    | true=>
     refine Runs.au aj mixed (t5 H hH E hE' S hS' s t l n c ty x y g) ⟨by rw[h1];rfl,by rw[h2];rfl,trivial⟩ (iR H hH E hE' S hS' s t l n c ty _) rfl fun g=>aB.ret (zr H hH E hE' S hS' s t l n c ty _ _ g) ?_
     unfold chkV;rw[h1,h2];rfl
  ·exact Runs.au aj mixed (t2 H hH E hE' S hS' s t l n c ty x y g) trivial (iR H hH E hE' S hS' s t l n c ty _) rfl fun g=>aB.ret (zr H hH E hE' S hS' s t l n c ty _ _ g) rfl
 ·exact Runs.au aj mixed (t1 H hH E hE' S hS' s t l n c ty x y f g) trivial (iR H hH E hE' S hS' s t l n c ty _) rfl fun g=>aB.ret (zr H hH E hE' S hS' s t l n c ty _ _ g) rfl
end
theorem b (H:Nd→Nd→B32) (hH:H=hV) (E:B32) (hE':E=hE) (S:Nd→B32) (hS':S=hS) (s t:B32) (l:List Lk) (n c:Nat) (ty:TypeId) (us vs:List Value) (x:B32) (e:Int) (y:B32) (f:Int) (g:Nat→SV):outN [0,1,2,5,6] (M5 H hH E hE' S hS' s t l n c ty e f) (exec (Γ H hH E hE' S hS' ) tys 100 (cpre 2 S3) ⟨fill g 0 (M2 H hH E hE' S hS' s t l n c ty ),ms H hH E hE' S hS' s t l n c ty us vs,[(47,[.s (hsS (x,e))]),(52,[.s (hsS (y,f))])]⟩)=some (.normal,(live (M5 H hH E hE' S hS' s t l n c ty e f)).map (SV.ren (piF [0,1,2,5,6])),(M5 H hH E hE' S hS' s t l n c ty e f).length,(mf H hH E hE' S hS' s t l n c ty x y).map (fun b=>some (b.ren (piF [0,1,2,5,6]))),[0+0+n*64≤us.length,n≤n,(us.drop (0+0)).take (n*64)=lvals (ay ((us.drop (0+0)).take (n*64))),(ay ((us.drop (0+0)).take (n*64))).length=n,n≤4000000,AllL (ay ((us.drop (0+0)).take (n*64))),hsS (rofT H E S (ay ((us.drop (0+0)).take (n*64))))=hsS (x,e),0+0+n*64≤vs.length,n≤n,(vs.drop (0+0)).take (n*64)=lvals (ay ((vs.drop (0+0)).take (n*64))),(ay ((vs.drop (0+0)).take (n*64))).length=n,n≤4000000,AllL (ay ((vs.drop (0+0)).take (n*64))),hsS (rofT H E S (ay ((vs.drop (0+0)).take (n*64))))=hsS (y,f)]):=by kernel_rfl
theorem run (H:Nd→Nd→B32) (hH:H=hV) (E:B32) (hE':E=hE) (S:Nd→B32) (hS':S=hS) (s t:B32) (l:List Lk) (n c:Nat) (ty:TypeId) (hn:l.length=n) (hb:n≤4000000) (hk:AllK l):av Tryd.prog GT 1 body (aF fn [cB32.enc s,cB32.enc t,.o (.a (.sld 0 0 0 n c))]) [⟨false,ty,.prv (aD l)⟩] (aB tys fn (aR (.o (.a (int1 .i64 (relV H E S s t l)))) .none)):=by
 have lk:(aD l).length=n*96:=by rw[←hn];exact kvals_len l
 refine Runs.of_outNP aj mixed 2 [0,1,2,3,4] (s0 H hH E hE' S hS' s t l n c ty) ⟨by omega,rfl,roomLf n hb,by omega,rfl,roomLf n hb,trivial⟩ (i0 H hH E hE' S hS' s t l n c ty _ _) rfl fun g=> ?_
 rw[bE]
 refine Runs.seq (Runs.seq (Runs.au aj mixed (a1 H hH E hE' S hS' s t l n c ty _ _ g) trivial (i1 H hH E hE' S hS' s t l n c ty _ _ _) rfl fun g=> ?_))
 refine Runs.block ?_
 have h00:∀f:List Lk→List Lf,f []=[]→repV zl.vals n=lvals (f (l.take 0))++repV zl.vals (n-0):=fun f hf=>by rw[List.take_zero,hf];rfl
 have e1:ms H hH E hE' S hS' s t l n c ty (repV zl.vals n) (repV zl.vals n)=ms H hH E hE' S hS' s t l n c ty (lvals (olds (l.take 0))++repV zl.vals (n-0)) (lvals (news (l.take 0))++repV zl.vals (n-0)):=by rw[←h00 olds rfl,←h00 news rfl]
 rw[e1]
 refine Runs.loopX (fun(i:Nat)=>M1 H hH E hE' S hS' s t l n c ty (i:Int)) (fun i=>ms H hH E hE' S hS' s t l n c ty (lvals (olds (l.take i))++repV zl.vals (n-i)) (lvals (news (l.take i))++repV zl.vals (n-i))) (fun i=>i≤n) (fun i=>n-i) ?_ 0 (Nat.zero_le _) g
 rintro i g hi
 rcases Nat.lt_or_ge i n with h | h
 ·have o96:=offs i 96
  have o64:=offs i 64
  have hb6:i*96+96≤n*96:=by have:=Nat.mul_le_mul_right 96 (show i+1≤n by omega);omega
  have hb5:i*64+64≤n*64:=by have:=Nat.mul_le_mul_right 64 (show i+1≤n by omega);omega
  have l1:(olds (l.take i)).length=i:=by rw[olds_len,List.length_take];omega
  have l2:(news (l.take i)).length=i:=by rw[news_len,List.length_take];omega
  have hz:zl.vals.length=64:=rfl
  refine Runs.aK aj mixed [0,1,2,3,4] (stp H hH E hE' S hS' s t l n c ty _ _ i ((i+1:Nat):Int) (l.getD i zk) g) ⟨decide_eq_true (by omega),by omega,by omega,by rw[o96,lk];omega,by rw[o96];exact ld_lk l (by omega),by omega,by omega,?_,by omega,by omega,?_,by rw[IntKind.wrap_i64];omega,trivial⟩ (i1 H hH E hE' S hS' s t l n c ty _ _ _) rfl fun g=> ?_
  ·rw[o64,List.length_append,bM,l1,repV_length,hz,Nat.sub_mul];omega
  ·rw[o64,List.length_append,bM,l2,repV_length,hz,Nat.sub_mul];omega
  ·refine⟨i+1,g,rfl,?_,by omega,by omega⟩
   rw[o64,put_rep Lf.bJ hz _ l1 h,put_rep Lf.bJ hz _ l2 h,olds_take (by omega),news_take (by omega)]
 ·obtain rfl:i=n:=by omega
  have ht:l.take i=l:=List.take_of_length_le (by omega)
  rw[ht,Nat.sub_self,repV,List.append_nil,List.append_nil]
  refine Runs.au aj mixed (out H hH E hE' S hS' s t l i c ty _ _ _ g) ⟨decide_eq_false (by omega),trivial⟩ (i2 H hH E hE' S hS' s t l i c ty _ _) rfl fun g=> ?_
  show av _ _ _ _ _ _ _
  have lo:(olds l).length=i:=by rw[olds_len,hn]
  have le:(news l).length=i:=by rw[news_len,hn]
  have q:=b H hH E hE' S hS' s t l i c ty (lvals (olds l)) (lvals (news l)) (rofT H E S (olds l)).1 (rofT H E S (olds l)).2 (rofT H E S (news l)).1 (rofT H E S (news l)).2 g
  rw[dtl lo,dtl le,bP,bP] at q
  refine Runs.of_outNP aj mixed 2 [0,1,2,5,6] q ⟨by rw[bM,lo];omega,Nat.le_refl _,rfl,lo,hb,olds_ok hk,rfl,by rw[bM,le];omega,Nat.le_refl _,rfl,le,hb,news_ok hk,rfl,trivial⟩ (i5 H hH E hE' S hS' s t l i c ty _ _ _ _) (by kernel_rfl) fun g=> ?_
  exact tail H hH E hE' S hS' s t l i c ty _ _ (rof_01 H E S _) (rof_01 H E S _) g
end grl
namespace grl
noncomputable def spec (H:Nd→Nd→B32) (E:B32) (S:Nd→B32):List PArg→Option (SV × LEff × Cst)
 | [.val u,.val v,.winv _ vs n ty]=>match cB32.dec u,cB32.dec v with
  | some s,some t=>some (.o (.a (int1 .i64 (relV H E S s t (aT vs)))),.none,[vs=aD (aT vs),(aT vs).length=n,n≤4000000,AllK (aT vs)])
  | _,_=>none
 | _=>none
noncomputable def con (H:Nd→Nd→B32) (hH:H=hV) (E:B32) (hE':E=hE) (S:Nd→B32) (hS':S=hS):Con Tryd.prog GT:=Con.parts aj 52 fn Tryd.func52 (by kernel_rfl) (c:=body) (by kernel_rfl) [.val,.val,.winv 96] (spec H E S)
 (fun ps r e p h hp=>by
  unfold spec at h
  split at h
  ·split at h<;>cases h
   exact⟨rfl,fun b hb=>by simp only[aN,PArg.blk,List.append_nil,List.nil_append,List.mem_singleton] at hb;rw[hb]⟩
  ·cases h)
 (fun ps r e p cap h hp hi=>by
  unfold spec at h
  split at h
  ·rename_i u v s1 vs n ty
   split at h<;>cases h
   rename_i s t k1 k2
   have e1:=cB32.ok _ _ k1
   have e2:=cB32.ok _ _ k2
   subst e1 e2
   obtain⟨p1,p2,p3,p4,_⟩:=hp
   have q:=run H hH E hE' S hS' s t (aT vs) n (cap 0) ty p2 p3 p4
   rw[←p1] at q
   exact q
  ·cases h)
end grl
namespace rrl
noncomputable def Γ (H:Nd→Nd→B32) (hH:H=hV) (E:B32) (hE':E=hE) (S:Nd→B32) (hS':S=hS):Cons Tryd.prog GT:=[rrof.con H hH E hE' S hS' ]
end rrl
namespace rrl
noncomputable abbrev fn:=Tryd.f53
noncomputable def body:Code:=bq fn
noncomputable def A2:Code:=cs1 (cs1 (csuf 2 body))
noncomputable def L:Code:=cL (cB (cs2 (cs1 (csuf 2 body))))
noncomputable def S3:Code:=cs2 (csuf 2 body)
noncomputable def X:Code:=cB (cs1 (csuf 2 L))
noncomputable def R7:Code:=cs2 (csuf 2 L)
noncomputable def R6:Code:=csuf 2 X
noncomputable def T:Code:=csuf 2 S3
theorem bE:csuf 2 body= .seq (.seq A2 (.block 0 (.loop L))) S3:=by kernel_rfl
theorem suf_L:csuf 2 L= .seq (.block 1 X) R7:=by kernel_rfl
namespace w
section
variable (H:Nd→Nd→B32)
def m0 (hH:H=hV) (E:B32) (hE':E=hE) (S:Nd→B32) (hS':S=hS) (s t:B32) (l:List Lk) (n c:Nat) (ty:TypeId):List Blk:=[⟨false,ty,.prv (aD l)⟩,⟨true,24,.lit (cB32.row s)⟩,⟨true,24,.lit (cB32.row t)⟩]
def M0 (hH:H=hV) (E:B32) (hE':E=hE) (S:Nd→B32) (hS':S=hS) (s t:B32) (l:List Lk) (n c:Nat) (ty:TypeId):List (Option SV):=aC 72 0 [(2,.o (.a (.sld 0 0 0 n c))),(3,.o (.a (.ptr 1 0))),(4,.o (.a (.ptr 2 0))),(7,.o (.a (.v (.slice none 0 0)))),(8,.o (.a (.v (.slice none 0 0))))]
def Mz (hH:H=hV) (E:B32) (hE':E=hE) (S:Nd→B32) (hS':S=hS) (s t:B32) (l:List Lk) (n c:Nat) (ty:TypeId):List (Option SV):=aC 72 0 [(2,.o (.a (.sld 0 0 0 n c))),(3,.o (.a (.ptr 1 0))),(4,.o (.a (.ptr 2 0))),(7,.o (.a (.v (.slice none 0 0)))),(8,.o (.a (.v (.slice none 0 0)))),(15,.o (.a (int1 .i64 n))),(16,.o (.a (int1 .i64 0)))]
def Dz (hH:H=hV) (E:B32) (hE':E=hE) (S:Nd→B32) (hS':S=hS) (s t:B32) (l:List Lk) (n c:Nat) (ty:TypeId):List (Option SV):=aC 72 0 [(2,.o (.a (.sld 0 0 0 n c))),(3,.o (.a (.ptr 1 0))),(4,.o (.a (.ptr 2 0))),(7,.o (.a (.v (.slice none 0 0)))),(8,.o (.a (.v (.slice none 0 0))))]
theorem iM0 (hH:H=hV) (E:B32) (hE':E=hE) (S:Nd→B32) (hS':S=hS) (s t:B32) (l:List Lk) (n c:Nat) (ty:TypeId):aA (m0 H hH E hE' S hS' s t l n c ty ).length (M0 H hH E hE' S hS' s t l n c ty ) (m0 H hH E hE' S hS' s t l n c ty )=true:=by kernel_rfl
theorem iMz (hH:H=hV) (E:B32) (hE':E=hE) (S:Nd→B32) (hS':S=hS) (s t:B32) (l:List Lk) (n c:Nat) (ty:TypeId):aA (m0 H hH E hE' S hS' s t l n c ty ).length (Mz H hH E hE' S hS' s t l n c ty ) (m0 H hH E hE' S hS' s t l n c ty )=true:=by kernel_rfl
theorem iDz (hH:H=hV) (E:B32) (hE':E=hE) (S:Nd→B32) (hS':S=hS) (s t:B32) (l:List Lk) (n c:Nat) (ty:TypeId):aA (m0 H hH E hE' S hS' s t l n c ty ).length (Dz H hH E hE' S hS' s t l n c ty ) (m0 H hH E hE' S hS' s t l n c ty )=true:=by kernel_rfl
theorem a1 (hH:H=hV) (E:B32) (hE':E=hE) (S:Nd→B32) (hS':S=hS) (s t:B32) (l:List Lk) (n c:Nat) (ty:TypeId) (g:Nat→SV):outX (m0 H hH E hE' S hS' s t l n c ty ).length (Mz H hH E hE' S hS' s t l n c ty ) (exec ([]:Cons Tryd.prog GT) tys 300 A2 ⟨fill g 0 (M0 H hH E hE' S hS' s t l n c ty ),m0 H hH E hE' S hS' s t l n c ty ,[]⟩)=some (.normal,live (Mz H hH E hE' S hS' s t l n c ty ),(Mz H hH E hE' S hS' s t l n c ty ).length,m0 H hH E hE' S hS' s t l n c ty ,[]):=by kernel_rfl
theorem oz (hH:H=hV) (E:B32) (hE':E=hE) (S:Nd→B32) (hS':S=hS) (s t:B32) (l:List Lk) (n c:Nat) (ty:TypeId) (g:Nat→SV):outX (m0 H hH E hE' S hS' s t l n c ty ).length (Dz H hH E hE' S hS' s t l n c ty ) (exec ([]:Cons Tryd.prog GT) tys 300 L ⟨fill g 0 (Mz H hH E hE' S hS' s t l n c ty ),m0 H hH E hE' S hS' s t l n c ty ,[(17,[.b false])]⟩)=some ((.exit 0),live (Dz H hH E hE' S hS' s t l n c ty ),(Dz H hH E hE' S hS' s t l n c ty ).length,m0 H hH E hE' S hS' s t l n c ty ,[decide ((0:Int)<n)=false]):=by kernel_rfl
def ms (hH:H=hV) (E:B32) (hE':E=hE) (S:Nd→B32) (hS':S=hS) (s t:B32) (l:List Lk) (n c:Nat) (ty:TypeId) (us:List Value) (lo:Nat) (hi:Option Nat) (vs:List Value) (lp:Nat) (hj:Option Nat):List Blk:=[⟨false,ty,.prv (aD l)⟩,⟨true,24,.lit (cB32.row s)⟩,⟨true,24,.lit (cB32.row t)⟩,⟨true,30,.grv 64 us lo hi⟩,⟨true,30,.grv 64 vs lp hj⟩]
def Ms (hH:H=hV) (E:B32) (hE':E=hE) (S:Nd→B32) (hS':S=hS) (s t:B32) (l:List Lk) (n c:Nat) (ty:TypeId) (u:Nat) (j:Int):List (Option SV):=aC 72 0 [(2,.o (.a (.sld 0 0 0 n c))),(3,.o (.a (.ptr 1 0))),(4,.o (.a (.ptr 2 0))),(7,.o (.a (.slg 3 u))),(8,.o (.a (.slg 4 u))),(15,.o (.a (int1 .i64 n))),(16,.o (.a (int1 .i64 j)))]
def Mm (hH:H=hV) (E:B32) (hE':E=hE) (S:Nd→B32) (hS':S=hS) (s t:B32) (l:List Lk) (n c:Nat) (ty:TypeId) (u:Nat) (j:Int):List (Option SV):=aC 72 0 [(2,.o (.a (.sld 0 0 0 n c))),(3,.o (.a (.ptr 1 0))),(4,.o (.a (.ptr 2 0))),(7,.o (.a (.slg 3 (u+1)))),(8,.o (.a (.slg 4 u))),(9,.o (.a (int1 .i64 j))),(15,.o (.a (int1 .i64 n))),(16,.o (.a (int1 .i64 j)))]
def Ds (hH:H=hV) (E:B32) (hE':E=hE) (S:Nd→B32) (hS':S=hS) (s t:B32) (l:List Lk) (n c:Nat) (ty:TypeId) (u:Nat):List (Option SV):=aC 72 0 [(2,.o (.a (.sld 0 0 0 n c))),(3,.o (.a (.ptr 1 0))),(4,.o (.a (.ptr 2 0))),(7,.o (.a (.slg 3 u))),(8,.o (.a (.slg 4 u)))]
theorem iMs (hH:H=hV) (E:B32) (hE':E=hE) (S:Nd→B32) (hS':S=hS) (s t:B32) (l:List Lk) (n c:Nat) (ty:TypeId) (us:List Value) (lo:Nat) (hi:Option Nat) (vs:List Value) (lp:Nat) (hj:Option Nat) (u:Nat) (j:Int):aA (ms H hH E hE' S hS' s t l n c ty us lo hi vs lp hj).length (Ms H hH E hE' S hS' s t l n c ty u j) (ms H hH E hE' S hS' s t l n c ty us lo hi vs lp hj)=true:=by kernel_rfl
theorem iMm (hH:H=hV) (E:B32) (hE':E=hE) (S:Nd→B32) (hS':S=hS) (s t:B32) (l:List Lk) (n c:Nat) (ty:TypeId) (us:List Value) (lo:Nat) (hi:Option Nat) (vs:List Value) (lp:Nat) (hj:Option Nat) (u:Nat) (j:Int):aA (ms H hH E hE' S hS' s t l n c ty us lo hi vs lp hj).length (Mm H hH E hE' S hS' s t l n c ty u j) (ms H hH E hE' S hS' s t l n c ty us lo hi vs lp hj)=true:=by kernel_rfl
theorem iDs (hH:H=hV) (E:B32) (hE':E=hE) (S:Nd→B32) (hS':S=hS) (s t:B32) (l:List Lk) (n c:Nat) (ty:TypeId) (us:List Value) (lo:Nat) (hi:Option Nat) (vs:List Value) (lp:Nat) (hj:Option Nat) (u:Nat):aA (ms H hH E hE' S hS' s t l n c ty us lo hi vs lp hj).length (Ds H hH E hE' S hS' s t l n c ty u) (ms H hH E hE' S hS' s t l n c ty us lo hi vs lp hj)=true:=by kernel_rfl
theorem zy (hH:H=hV) (E:B32) (hE':E=hE) (S:Nd→B32) (hS':S=hS) (s t:B32) (l:List Lk) (n c:Nat) (ty:TypeId) (x:Lk) (g:Nat→SV):outN [0,1,2,4,6] (Ms H hH E hE' S hS' s t l n c ty 1 1) (exec ([]:Cons Tryd.prog GT) tys 100 L ⟨fill g 0 (Mz H hH E hE' S hS' s t l n c ty ),m0 H hH E hE' S hS' s t l n c ty ,[(17,[.b true]),(24,[.ds (cB32.enc x.old)]),(29,[.ds (cB32.enc x.val)]),(31,[.dyn]),(38,[.ds (cB32.enc x.new)]),(43,[.ds (cB32.enc x.val)]),(45,[.dyn])]⟩)=some (.normal,(live (Ms H hH E hE' S hS' s t l n c ty 1 1)).map (SV.ren (piF [0,1,2,4,6])),(Ms H hH E hE' S hS' s t l n c ty 1 1).length,(ms H hH E hE' S hS' s t l n c ty (oldL x).vals 1 none (newL x).vals 1 none).map (fun b=>some (b.ren (piF [0,1,2,4,6]))),[decide ((0:Int)<n)=true,0≤(0:Int),(0:Int)<n,0+offI 0 0 96+32≤(aD l).length,SV.o (.g (aL (aD l) (0+offI 0 0 96) 32))=cB32.enc x.old,0≤(0:Int),(0:Int)<n,0+(offI 0 0 96+64)+32≤(aD l).length,SV.o (.g (aL (aD l) (0+(offI 0 0 96+64)) 32))=cB32.enc x.val,64=1*64,0+0+1*64≤(oldL x).vals.length,0<1,Room Tryd.prog 30 1,0≤(0:Int),(0:Int)<n,0+(offI 0 0 96+32)+32≤(aD l).length,SV.o (.g (aL (aD l) (0+(offI 0 0 96+32)) 32))=cB32.enc x.new,0≤(0:Int),(0:Int)<n,0+(offI 0 0 96+64)+32≤(aD l).length,SV.o (.g (aL (aD l) (0+(offI 0 0 96+64)) 32))=cB32.enc x.val,64=1*64,0+0+1*64≤(newL x).vals.length,0<1,Room Tryd.prog 30 1]):=by kernel_rfl
theorem hds (hH:H=hV) (E:B32) (hE':E=hE) (S:Nd→B32) (hS':S=hS) (s t:B32) (l:List Lk) (n c:Nat) (ty:TypeId) (us:List Value) (lo:Nat) (hi:Option Nat) (vs:List Value) (lp:Nat) (hj:Option Nat) (u:Nat) (j:Int) (g:Nat→SV):outX (ms H hH E hE' S hS' s t l n c ty us lo hi vs lp hj).length (Ms H hH E hE' S hS' s t l n c ty u j) (exec ([]:Cons Tryd.prog GT) tys 300 (cpre 2 L) ⟨fill g 0 (Ms H hH E hE' S hS' s t l n c ty u j),ms H hH E hE' S hS' s t l n c ty us lo hi vs lp hj,[(17,[.b true])]⟩)=some (.normal,live (Ms H hH E hE' S hS' s t l n c ty u j),(Ms H hH E hE' S hS' s t l n c ty u j).length,ms H hH E hE' S hS' s t l n c ty us lo hi vs lp hj,[decide (j<n)=true]):=by kernel_rfl
theorem ag (hH:H=hV) (E:B32) (hE':E=hE) (S:Nd→B32) (hS':S=hS) (s t:B32) (l:List Lk) (n c:Nat) (ty:TypeId) (us:List Value) (vs:List Value) (lp:Nat) (hj:Option Nat) (u:Nat) (j:Int) (x:Lk) (g:Nat→SV):outX (ms H hH E hE' S hS' s t l n c ty (us++(oldL x).vals) (u+1) none vs lp hj).length (Mm H hH E hE' S hS' s t l n c ty u j) (exec ([]:Cons Tryd.prog GT) tys 300 (cpre 2 X) ⟨fill g 0 (Ms H hH E hE' S hS' s t l n c ty u j),ms H hH E hE' S hS' s t l n c ty us (u+1) none vs lp hj,[(24,[.ds (cB32.enc x.old)]),(29,[.ds (cB32.enc x.val)]),(31,[.dyn]),(32,[.dyn])]⟩)=some (.normal,live (Mm H hH E hE' S hS' s t l n c ty u j),(Mm H hH E hE' S hS' s t l n c ty u j).length,ms H hH E hE' S hS' s t l n c ty (us++(oldL x).vals) (u+1) none vs lp hj,[0≤j,j<n,0+offI 0 j 96+32≤(aD l).length,SV.o (.g (aL (aD l) (0+offI 0 j 96) 32))=cB32.enc x.old,0≤j,j<n,0+(offI 0 j 96+64)+32≤(aD l).length,SV.o (.g (aL (aD l) (0+(offI 0 j 96+64)) 32))=cB32.enc x.val,64=1*64,0+0+1*64≤(oldL x).vals.length,u*64=us.length,u+1≤u+1,∀v∈(oldL x).vals,v.oneCell'=true]):=by kernel_rfl
theorem ar (hH:H=hV) (E:B32) (hE':E=hE) (S:Nd→B32) (hS':S=hS) (s t:B32) (l:List Lk) (n c:Nat) (ty:TypeId) (us:List Value) (vs:List Value) (lp:Nat) (hj:Option Nat) (lo:Nat) (u:Nat) (j:Int) (x:Lk) (g:Nat→SV):outN [0,1,2,6,4] (Mm H hH E hE' S hS' s t l n c ty u j) (exec ([]:Cons Tryd.prog GT) tys 100 (cpre 2 X) ⟨fill g 0 (Ms H hH E hE' S hS' s t l n c ty u j),ms H hH E hE' S hS' s t l n c ty us lo (some (u+1)) vs lp hj,[(24,[.ds (cB32.enc x.old)]),(29,[.ds (cB32.enc x.val)]),(31,[.dyn]),(32,[.dyn])]⟩)=some (.normal,(live (Mm H hH E hE' S hS' s t l n c ty u j)).map (SV.ren (piF [0,1,2,6,4])),(Mm H hH E hE' S hS' s t l n c ty u j).length,(ms H hH E hE' S hS' s t l n c ty (us++(oldL x).vals) (u+1) none vs lp hj).map (fun b=>some (b.ren (piF [0,1,2,6,4]))),[0≤j,j<n,0+offI 0 j 96+32≤(aD l).length,SV.o (.g (aL (aD l) (0+offI 0 j 96) 32))=cB32.enc x.old,0≤j,j<n,0+(offI 0 j 96+64)+32≤(aD l).length,SV.o (.g (aL (aD l) (0+(offI 0 j 96+64)) 32))=cB32.enc x.val,64=1*64,0+0+1*64≤(oldL x).vals.length,u*64=us.length,u+1≤u+1,Room Tryd.prog 30 (u+1)]):=by kernel_rfl
theorem bg (hH:H=hV) (E:B32) (hE':E=hE) (S:Nd→B32) (hS':S=hS) (s t:B32) (l:List Lk) (n c:Nat) (ty:TypeId) (us:List Value) (lo:Nat) (hi:Option Nat) (vs:List Value) (u:Nat) (j:Int) (x:Lk) (g:Nat→SV):outX (ms H hH E hE' S hS' s t l n c ty us lo hi (vs++(newL x).vals) (u+1) none).length (Ms H hH E hE' S hS' s t l n c ty (u+1) j) (exec ([]:Cons Tryd.prog GT) tys 300 R6 ⟨fill g 0 (Mm H hH E hE' S hS' s t l n c ty u j),ms H hH E hE' S hS' s t l n c ty us lo hi vs (u+1) none,[(38,[.ds (cB32.enc x.new)]),(43,[.ds (cB32.enc x.val)]),(45,[.dyn]),(46,[.dyn])]⟩)=some (.normal,live (Ms H hH E hE' S hS' s t l n c ty (u+1) j),(Ms H hH E hE' S hS' s t l n c ty (u+1) j).length,ms H hH E hE' S hS' s t l n c ty us lo hi (vs++(newL x).vals) (u+1) none,[0≤j,j<n,0+(offI 0 j 96+32)+32≤(aD l).length,SV.o (.g (aL (aD l) (0+(offI 0 j 96+32)) 32))=cB32.enc x.new,0≤j,j<n,0+(offI 0 j 96+64)+32≤(aD l).length,SV.o (.g (aL (aD l) (0+(offI 0 j 96+64)) 32))=cB32.enc x.val,64=1*64,0+0+1*64≤(newL x).vals.length,u*64=vs.length,u+1≤u+1,∀v∈(newL x).vals,v.oneCell'=true]):=by kernel_rfl
theorem br (hH:H=hV) (E:B32) (hE':E=hE) (S:Nd→B32) (hS':S=hS) (s t:B32) (l:List Lk) (n c:Nat) (ty:TypeId) (us:List Value) (lo:Nat) (hi:Option Nat) (vs:List Value) (lp:Nat) (u:Nat) (j:Int) (x:Lk) (g:Nat→SV):outN [0,1,2,3,6] (Ms H hH E hE' S hS' s t l n c ty (u+1) j) (exec ([]:Cons Tryd.prog GT) tys 100 R6 ⟨fill g 0 (Mm H hH E hE' S hS' s t l n c ty u j),ms H hH E hE' S hS' s t l n c ty us lo hi vs lp (some (u+1)),[(38,[.ds (cB32.enc x.new)]),(43,[.ds (cB32.enc x.val)]),(45,[.dyn]),(46,[.dyn])]⟩)=some (.normal,(live (Ms H hH E hE' S hS' s t l n c ty (u+1) j)).map (SV.ren (piF [0,1,2,3,6])),(Ms H hH E hE' S hS' s t l n c ty (u+1) j).length,(ms H hH E hE' S hS' s t l n c ty us lo hi (vs++(newL x).vals) (u+1) none).map (fun b=>some (b.ren (piF [0,1,2,3,6]))),[0≤j,j<n,0+(offI 0 j 96+32)+32≤(aD l).length,SV.o (.g (aL (aD l) (0+(offI 0 j 96+32)) 32))=cB32.enc x.new,0≤j,j<n,0+(offI 0 j 96+64)+32≤(aD l).length,SV.o (.g (aL (aD l) (0+(offI 0 j 96+64)) 32))=cB32.enc x.val,64=1*64,0+0+1*64≤(newL x).vals.length,u*64=vs.length,u+1≤u+1,Room Tryd.prog 30 (u+1)]):=by kernel_rfl
theorem nx (hH:H=hV) (E:B32) (hE':E=hE) (S:Nd→B32) (hS':S=hS) (s t:B32) (l:List Lk) (n c:Nat) (ty:TypeId) (us:List Value) (lo:Nat) (hi:Option Nat) (vs:List Value) (lp:Nat) (hj:Option Nat) (u:Nat) (j j':Int) (g:Nat→SV):outX (ms H hH E hE' S hS' s t l n c ty us lo hi vs lp hj).length (Ms H hH E hE' S hS' s t l n c ty u j') (exec ([]:Cons Tryd.prog GT) tys 300 R7 ⟨fill g 0 (Ms H hH E hE' S hS' s t l n c ty u j),ms H hH E hE' S hS' s t l n c ty us lo hi vs lp hj,[(47,[.n j'])]⟩)=some (.normal,live (Ms H hH E hE' S hS' s t l n c ty u j'),(Ms H hH E hE' S hS' s t l n c ty u j').length,ms H hH E hE' S hS' s t l n c ty us lo hi vs lp hj,[IntKind.i64.wrap (j+1)=j']):=by kernel_rfl
theorem os (hH:H=hV) (E:B32) (hE':E=hE) (S:Nd→B32) (hS':S=hS) (s t:B32) (l:List Lk) (n c:Nat) (ty:TypeId) (us:List Value) (lo:Nat) (hi:Option Nat) (vs:List Value) (lp:Nat) (hj:Option Nat) (u:Nat) (j:Int) (g:Nat→SV):outX (ms H hH E hE' S hS' s t l n c ty us lo hi vs lp hj).length (Ds H hH E hE' S hS' s t l n c ty u) (exec ([]:Cons Tryd.prog GT) tys 300 L ⟨fill g 0 (Ms H hH E hE' S hS' s t l n c ty u j),ms H hH E hE' S hS' s t l n c ty us lo hi vs lp hj,[(17,[.b false])]⟩)=some ((.exit 0),live (Ds H hH E hE' S hS' s t l n c ty u),(Ds H hH E hE' S hS' s t l n c ty u).length,ms H hH E hE' S hS' s t l n c ty us lo hi vs lp hj,[decide (j<n)=false]):=by kernel_rfl
end
def MA (H:Nd→Nd→B32) (hH:H=hV) (E:B32) (hE':E=hE) (S:Nd→B32) (hS':S=hS) (s t:B32) (l:List Lk) (n c:Nat) (ty:TypeId):Nat→List (Option SV)
 | 0=>Mz H hH E hE' S hS' s t l n c ty
 | i+1=>Ms H hH E hE' S hS' s t l n c ty (i+1) ((i+1:Nat):Int)
def mA (H:Nd→Nd→B32) (hH:H=hV) (E:B32) (hE':E=hE) (S:Nd→B32) (hS':S=hS) (s t:B32) (l:List Lk) (n c:Nat) (ty:TypeId):Nat→List Blk
 | 0=>m0 H hH E hE' S hS' s t l n c ty
 | i+1=>ms H hH E hE' S hS' s t l n c ty (lvals (olds (l.take (i+1)))) (i+1) none (lvals (news (l.take (i+1)))) (i+1) none
section
variable (H:Nd→Nd→B32)
theorem loop (hH:H=hV) (E:B32) (hE':E=hE) (S:Nd→B32) (hS':S=hS) (s t:B32) (l:List Lk) (n c:Nat) (ty:TypeId) (hn:l.length=n) (hb:n≤4000000) {Post:Ex→List SV→List Blk→Prop} (hz:n=0→∀g,Post (.exit 0) (fill g 0 (Dz H hH E hE' S hS' s t l n c ty)) (m0 H hH E hE' S hS' s t l n c ty)) (hp:0<n→∀g,Post (.exit 0) (fill g 0 (Ds H hH E hE' S hS' s t l n c ty n)) (ms H hH E hE' S hS' s t l n c ty (lvals (olds l)) n none (lvals (news l)) n none)) (g:Nat→SV):
  av Tryd.prog GT 1 (.loop L) (fill g 0 (Mz H hH E hE' S hS' s t l n c ty)) (m0 H hH E hE' S hS' s t l n c ty) Post:=by
 have lk:(aD l).length=n*96:=by rw[←hn];exact kvals_len l
 refine Runs.loopX (fun(i:Nat)=>MA H hH E hE' S hS' s t l n c ty i) (fun i=>mA H hH E hE' S hS' s t l n c ty i) (fun i=>i≤n) (fun i=>n-i) ?_ 0 (Nat.zero_le _) g
 rintro i g hi
 rcases Nat.lt_or_ge i n with h | h
 ·have o96:=offs i 96
  have o1:0+(offI 0 (i:Int) 96+32)=i*96+32:=by omega
  have o2:0+(offI 0 (i:Int) 96+64)=i*96+64:=by omega
  have hb6:i*96+96≤n*96:=by have:=Nat.mul_le_mul_right 96 (show i+1≤n by omega);omega
  have a0:0+offI 0 (i:Int) 96+32≤(aD l).length:=by rw[o96,lk];omega
  have b0:0+(offI 0 (i:Int) 96+32)+32≤(aD l).length:=by rw[o1,lk];omega
  have c0:0+(offI 0 (i:Int) 96+64)+32≤(aD l).length:=by rw[o2,lk];omega
  have a1:SV.o (.g (aL (aD l) (0+offI 0 (i:Int) 96) 32))=cB32.enc (l.getD i zk).old:=by rw[o96];exact ld_k0 l (by omega)
  have b1:SV.o (.g (aL (aD l) (0+(offI 0 (i:Int) 96+32)) 32))=cB32.enc (l.getD i zk).new:=by rw[o1];exact ld_k1 l (by omega)
  have c1:SV.o (.g (aL (aD l) (0+(offI 0 (i:Int) 96+64)) 32))=cB32.enc (l.getD i zk).val:=by rw[o2];exact ld_k2 l (by omega)
  have v1:=Lf.bJ (oldL (l.getD i zk))
  have v2:=Lf.bJ (newL (l.getD i zk))
  have s1:=olds_take (show i<l.length by omega)
  have s2:=news_take (show i<l.length by omega)
  cases i with
  | zero=>
   refine Runs.aK aj mixed [0,1,2,4,6] (zy H hH E hE' S hS' s t l n c ty (l.getD 0 zk) g) ⟨decide_eq_true (by omega),by omega,by omega,a0,a1,by omega,by omega,c0,c1,rfl,by omega,by omega,roomLf 1 (by omega),by omega,by omega,b0,b1,by omega,by omega,c0,c1,rfl,by omega,by omega,roomLf 1 (by omega),trivial⟩ (iMs H hH E hE' S hS' s t l n c ty _ _ _ _ _ _ _ _) rfl fun g=> ?_
   refine⟨1,g,rfl,?_,by omega,by omega⟩
   show ms H hH E hE' S hS' s t l n c ty _ 1 none _ 1 none=ms H hH E hE' S hS' s t l n c ty (lvals (olds (l.take 1))) 1 none (lvals (news (l.take 1))) 1 none
   rw[s1,s2,lv1,lv1]
   rfl
  | succ i=>
   have l1:(lvals (olds (l.take (i+1)))).length=(i+1)*64:=by rw[bM,olds_len,List.length_take];omega
   have l2:(lvals (news (l.take (i+1)))).length=(i+1)*64:=by rw[bM,news_len,List.length_take];omega
   have hw2:IntKind.i64.wrap (((i+1:Nat):Int)+1)=((i+1+1:Nat):Int):=by rw[IntKind.wrap_i64];omega
   refine Runs.bD aj mixed 2 (hds H hH E hE' S hS' s t l n c ty _ _ _ _ _ _ _ _ g) ⟨decide_eq_true (by omega),trivial⟩ (iMs H hH E hE' S hS' s t l n c ty _ _ _ _ _ _ _ _) rfl fun g=> ?_
   rw[suf_L]
   refine Runs.seq (Runs.block ?_)
   have second:∀g,av Tryd.prog GT 1 R6 (fill g 0 (Mm H hH E hE' S hS' s t l n c ty (i+1) ((i+1:Nat):Int))) (ms H hH E hE' S hS' s t l n c ty (lvals (olds (l.take (i+1)))++(oldL (l.getD (i+1) zk)).vals) (i+1+1) none (lvals (news (l.take (i+1)))) (i+1) none) (fun e t' m'=>∃g,e=Ex.normal∧t'=fill g 0 (Ms H hH E hE' S hS' s t l n c ty (i+1+1) ((i+1:Nat):Int))∧m'=ms H hH E hE' S hS' s t l n c ty (lvals (olds (l.take (i+1+1)))) (i+1+1) none (lvals (news (l.take (i+1+1)))) (i+1+1) none):=fun g=>by
    rw[s1,s2,lv1,lv1]
    refine Runs.roomV 4 (i+1+1) (own:=true) (ty:=30) (s:=64) (vs:=lvals (news (l.take (i+1)))) (lo:=i+1) rfl ?_ ?_
    ·exact Runs.au aj mixed (bg H hH E hE' S hS' s t l n c ty _ _ _ _ (i+1) _ (l.getD (i+1) zk) g) ⟨by omega,by omega,b0,b1,by omega,by omega,c0,c1,rfl,by omega,by omega,Nat.le_refl _,dst.oneLv _,trivial⟩ (iMs H hH E hE' S hS' s t l n c ty _ _ _ _ _ _ _ _) rfl fun g=>⟨g,rfl,rfl,rfl⟩
    ·exact Runs.aK aj mixed [0,1,2,3,6] (br H hH E hE' S hS' s t l n c ty _ _ _ _ (i+1) (i+1) _ (l.getD (i+1) zk) g) ⟨by omega,by omega,b0,b1,by omega,by omega,c0,c1,rfl,by omega,by omega,Nat.le_refl _,roomLf _ (by omega),trivial⟩ (iMs H hH E hE' S hS' s t l n c ty _ _ _ _ _ _ _ _) rfl fun g=>⟨g,rfl,rfl,rfl⟩
   have done:∀{e:Ex} {t':List SV} {m':List Blk},(∃g,e=Ex.normal∧t'=fill g 0 (Ms H hH E hE' S hS' s t l n c ty (i+1+1) ((i+1:Nat):Int))∧m'=ms H hH E hE' S hS' s t l n c ty (lvals (olds (l.take (i+1+1)))) (i+1+1) none (lvals (news (l.take (i+1+1)))) (i+1+1) none)→e=Ex.normal∧av Tryd.prog GT 1 R7 t' m' (fun e t' m'=>∃g,e=Ex.normal∧t'=fill g 0 (MA H hH E hE' S hS' s t l n c ty (i+1+1))∧m'=mA H hH E hE' S hS' s t l n c ty (i+1+1)):=fun {e t' m'} ⟨g,h1,h2,h3⟩=>by
    subst h1 h2 h3
    exact⟨rfl,Runs.au aj mixed (nx H hH E hE' S hS' s t l n c ty _ _ _ _ _ _ (i+1+1) _ ((i+1+1:Nat):Int) g) ⟨hw2,trivial⟩ (iMs H hH E hE' S hS' s t l n c ty _ _ _ _ _ _ _ _) rfl fun g=>⟨g,rfl,rfl,rfl⟩⟩
   refine Runs.mono (Post:=fun e t' m'=>∃g,e=Ex.normal∧t'=fill g 0 (Ms H hH E hE' S hS' s t l n c ty (i+1+1) ((i+1:Nat):Int))∧m'=ms H hH E hE' S hS' s t l n c ty (lvals (olds (l.take (i+1+1)))) (i+1+1) none (lvals (news (l.take (i+1+1)))) (i+1+1) none) ?_ fun e t' m' hh=> ?_
   ·refine Runs.roomV 3 (i+1+1) (own:=true) (ty:=30) (s:=64) (vs:=lvals (olds (l.take (i+1)))) (lo:=i+1) rfl ?_ ?_
    ·refine Runs.bD aj mixed 2 (ag H hH E hE' S hS' s t l n c ty _ _ _ _ (i+1) _ (l.getD (i+1) zk) g) ⟨by omega,by omega,a0,a1,by omega,by omega,c0,c1,rfl,by omega,by omega,Nat.le_refl _,dst.oneLv _,trivial⟩ (iMm H hH E hE' S hS' s t l n c ty _ _ _ _ _ _ _ _) rfl fun g=> ?_
     exact second g
    ·refine Runs.of_outNP aj mixed 2 [0,1,2,6,4] (ar H hH E hE' S hS' s t l n c ty _ _ _ _ (i+1) (i+1) _ (l.getD (i+1) zk) g) ⟨by omega,by omega,a0,a1,by omega,by omega,c0,c1,rfl,by omega,by omega,Nat.le_refl _,roomLf _ (by omega),trivial⟩ (iMm H hH E hE' S hS' s t l n c ty _ _ _ _ _ _ _ _) rfl fun g=> ?_
     exact second g
   ·obtain⟨rfl,hr⟩:=done hh
    show av _ _ _ R7 _ _ _
    refine Runs.mono hr fun e t' m' ⟨g,h1,h2,h3⟩=> ?_
    subst h1
    exact⟨i+1+1,g,h2,h3,by omega,by omega⟩
 ·obtain rfl:i=n:=by omega
  cases i with
  | zero=>exact Runs.au aj mixed (oz H hH E hE' S hS' s t l 0 c ty g) ⟨decide_eq_false (by omega),trivial⟩ (iDz H hH E hE' S hS' s t l 0 c ty) rfl fun g=>hz rfl g
  | succ i=>
   have ht:l.take (i+1)=l:=List.take_of_length_le (by omega)
   refine Runs.au aj mixed (os H hH E hE' S hS' s t l (i+1) c ty _ _ _ _ _ _ _ _ g) ⟨decide_eq_false (by omega),trivial⟩ (iDs H hH E hE' S hS' s t l (i+1) c ty _ _ _ _ _ _ _) rfl fun g=> ?_
   rw[ht]
   exact hp (by omega) g
theorem s0 (hH:H=hV) (E:B32) (hE':E=hE) (S:Nd→B32) (hS':S=hS) (s t:B32) (l:List Lk) (n c:Nat) (ty:TypeId):outX (m0 H hH E hE' S hS' s t l n c ty ).length (M0 H hH E hE' S hS' s t l n c ty ) (exec ([]:Cons Tryd.prog GT) tys 300 (cpre 2 body) ⟨aF fn [cB32.enc s,cB32.enc t,.o (.a (.sld 0 0 0 n c))],[⟨false,ty,.prv (aD l)⟩],[]⟩)=some (.normal,live (M0 H hH E hE' S hS' s t l n c ty ),(M0 H hH E hE' S hS' s t l n c ty ).length,m0 H hH E hE' S hS' s t l n c ty ,[]):=by kernel_rfl
def mo (hH:H=hV) (E:B32) (hE':E=hE) (S:Nd→B32) (hS':S=hS) (s t:B32) (l:List Lk) (n c:Nat) (ty:TypeId):List Blk:=[⟨false,ty,.prv (aD l)⟩]
def mf (hH:H=hV) (E:B32) (hE':E=hE) (S:Nd→B32) (hS':S=hS) (s t:B32) (l:List Lk) (n c:Nat) (ty:TypeId) (x y:B32):List Blk:=[⟨false,ty,.prv (aD l)⟩,⟨true,24,.lit (cB32.row s)⟩,⟨true,24,.lit (cB32.row t)⟩,⟨true,24,.lit (cB32.row x)⟩,⟨true,24,.lit (cB32.row y)⟩]
def MR (hH:H=hV) (E:B32) (hE':E=hE) (S:Nd→B32) (hS':S=hS) (s t:B32) (l:List Lk) (n c:Nat) (ty:TypeId) (e:Int):List (Option SV):=aC 72 0 [(6,.o (.a (int1 .i64 e)))]
theorem iR (hH:H=hV) (E:B32) (hE':E=hE) (S:Nd→B32) (hS':S=hS) (s t:B32) (l:List Lk) (n c:Nat) (ty:TypeId) (e:Int):aA (mo H hH E hE' S hS' s t l n c ty ).length (MR H hH E hE' S hS' s t l n c ty e) (mo H hH E hE' S hS' s t l n c ty )=true:=by kernel_rfl
def M5 (hH:H=hV) (E:B32) (hE':E=hE) (S:Nd→B32) (hS':S=hS) (s t:B32) (l:List Lk) (n c:Nat) (ty:TypeId) (e f:Int):List (Option SV):=aC 72 0 [(3,.o (.a (.ptr 1 0))),(4,.o (.a (.ptr 2 0))),(10,.o (.a (.ptr 3 0))),(11,.o (.a (int1 .i64 e))),(12,.o (.a (.ptr 4 0))),(13,.o (.a (int1 .i64 f)))]
theorem i5 (hH:H=hV) (E:B32) (hE':E=hE) (S:Nd→B32) (hS':S=hS) (s t:B32) (l:List Lk) (n c:Nat) (ty:TypeId) (e f:Int) (x y:B32):aA (mf H hH E hE' S hS' s t l n c ty x y).length (M5 H hH E hE' S hS' s t l n c ty e f) (mf H hH E hE' S hS' s t l n c ty x y)=true:=by kernel_rfl
theorem t1 (hH:H=hV) (E:B32) (hE':E=hE) (S:Nd→B32) (hS':S=hS) (s t:B32) (l:List Lk) (n c:Nat) (ty:TypeId) (x y:B32) (f:Int) (g:Nat→SV):outX (mo H hH E hE' S hS' s t l n c ty ).length (MR H hH E hE' S hS' s t l n c ty 1) (exec ([]:Cons Tryd.prog GT) tys 300 T ⟨fill g 0 (M5 H hH E hE' S hS' s t l n c ty 1 f),mf H hH E hE' S hS' s t l n c ty x y,[]⟩)=some (.ret,live (MR H hH E hE' S hS' s t l n c ty 1),(MR H hH E hE' S hS' s t l n c ty 1).length,mo H hH E hE' S hS' s t l n c ty ,[]):=by kernel_rfl
theorem t2 (hH:H=hV) (E:B32) (hE':E=hE) (S:Nd→B32) (hS':S=hS) (s t:B32) (l:List Lk) (n c:Nat) (ty:TypeId) (x y:B32) (g:Nat→SV):outX (mo H hH E hE' S hS' s t l n c ty ).length (MR H hH E hE' S hS' s t l n c ty 1) (exec ([]:Cons Tryd.prog GT) tys 300 T ⟨fill g 0 (M5 H hH E hE' S hS' s t l n c ty 0 1),mf H hH E hE' S hS' s t l n c ty x y,[]⟩)=some (.ret,live (MR H hH E hE' S hS' s t l n c ty 1),(MR H hH E hE' S hS' s t l n c ty 1).length,mo H hH E hE' S hS' s t l n c ty ,[]):=by kernel_rfl
theorem t3 (hH:H=hV) (E:B32) (hE':E=hE) (S:Nd→B32) (hS':S=hS) (s t:B32) (l:List Lk) (n c:Nat) (ty:TypeId) (x y:B32) (g:Nat→SV):outX (mo H hH E hE' S hS' s t l n c ty ).length (MR H hH E hE' S hS' s t l n c ty 3) (exec ([]:Cons Tryd.prog GT) tys 300 T ⟨fill g 0 (M5 H hH E hE' S hS' s t l n c ty 0 0),mf H hH E hE' S hS' s t l n c ty x y,[(66,[.b true])]⟩)=some (.ret,live (MR H hH E hE' S hS' s t l n c ty 3),(MR H hH E hE' S hS' s t l n c ty 3).length,mo H hH E hE' S hS' s t l n c ty ,[(!eqL x.to s.to)=true]):=by kernel_rfl
theorem t4 (hH:H=hV) (E:B32) (hE':E=hE) (S:Nd→B32) (hS':S=hS) (s t:B32) (l:List Lk) (n c:Nat) (ty:TypeId) (x y:B32) (g:Nat→SV):outX (mo H hH E hE' S hS' s t l n c ty ).length (MR H hH E hE' S hS' s t l n c ty 3) (exec ([]:Cons Tryd.prog GT) tys 300 T ⟨fill g 0 (M5 H hH E hE' S hS' s t l n c ty 0 0),mf H hH E hE' S hS' s t l n c ty x y,[(66,[.b false]),(70,[.b true])]⟩)=some (.ret,live (MR H hH E hE' S hS' s t l n c ty 3),(MR H hH E hE' S hS' s t l n c ty 3).length,mo H hH E hE' S hS' s t l n c ty ,[(!eqL x.to s.to)=false,(!eqL y.to t.to)=true]):=by kernel_rfl
theorem t5 (hH:H=hV) (E:B32) (hE':E=hE) (S:Nd→B32) (hS':S=hS) (s t:B32) (l:List Lk) (n c:Nat) (ty:TypeId) (x y:B32) (g:Nat→SV):outX (mo H hH E hE' S hS' s t l n c ty ).length (MR H hH E hE' S hS' s t l n c ty 0) (exec ([]:Cons Tryd.prog GT) tys 300 T ⟨fill g 0 (M5 H hH E hE' S hS' s t l n c ty 0 0),mf H hH E hE' S hS' s t l n c ty x y,[(66,[.b false]),(70,[.b false])]⟩)=some (.ret,live (MR H hH E hE' S hS' s t l n c ty 0),(MR H hH E hE' S hS' s t l n c ty 0).length,mo H hH E hE' S hS' s t l n c ty ,[(!eqL x.to s.to)=false,(!eqL y.to t.to)=false]):=by kernel_rfl
theorem zr (hH:H=hV) (E:B32) (hE':E=hE) (S:Nd→B32) (hS':S=hS) (s t:B32) (l:List Lk) (n c:Nat) (ty:TypeId) (e:Int) (mm:Nat→Option Blk) (g:Nat→SV):eRes tys (fill g 0 (MR H hH E hE' S hS' s t l n c ty e)) mm fn.results.toList=some [.a (int1 .i64 e)]:=by kernel_rfl
theorem tail (hH:H=hV) (E:B32) (hE':E=hE) (S:Nd→B32) (hS':S=hS) (s t:B32) (l:List Lk) (n c:Nat) (ty:TypeId) (x y:B32 × Int) (hx:x.2=0∨x.2=1) (hy:y.2=0∨y.2=1) (g:Nat→SV):av Tryd.prog GT 1 T (fill g 0 (M5 H hH E hE' S hS' s t l n c ty x.2 y.2)) (mf H hH E hE' S hS' s t l n c ty x.1 y.1) (aB tys fn (aR (.o (.a (int1 .i64 (chkV x y s t)))) .none)):=by
 obtain⟨x,e⟩:=x
 obtain⟨y,f⟩:=y
 rcases hx with rfl | rfl
 ·rcases hy with rfl | rfl
  ·cases h1:eqL x.to s.to with
   | false=>
    refine Runs.au aj mixed (t3 H hH E hE' S hS' s t l n c ty x y g) ⟨by rw[h1];rfl,trivial⟩ (iR H hH E hE' S hS' s t l n c ty _) rfl fun g=>aB.ret (zr H hH E hE' S hS' s t l n c ty _ _ g) ?_
    unfold chkV;rw[h1];rfl
   | true=>
    cases h2:eqL y.to t.to with
    | false=>
     refine Runs.au aj mixed (t4 H hH E hE' S hS' s t l n c ty x y g) ⟨by rw[h1];rfl,by rw[h2];rfl,trivial⟩ (iR H hH E hE' S hS' s t l n c ty _) rfl fun g=>aB.ret (zr H hH E hE' S hS' s t l n c ty _ _ g) ?_
     unfold chkV;rw[h1,h2];rfl
    | true=>
     refine Runs.au aj mixed (t5 H hH E hE' S hS' s t l n c ty x y g) ⟨by rw[h1];rfl,by rw[h2];rfl,trivial⟩ (iR H hH E hE' S hS' s t l n c ty _) rfl fun g=>aB.ret (zr H hH E hE' S hS' s t l n c ty _ _ g) ?_
     unfold chkV;rw[h1,h2];rfl
  ·exact Runs.au aj mixed (t2 H hH E hE' S hS' s t l n c ty x y g) trivial (iR H hH E hE' S hS' s t l n c ty _) rfl fun g=>aB.ret (zr H hH E hE' S hS' s t l n c ty _ _ g) rfl
 ·exact Runs.au aj mixed (t1 H hH E hE' S hS' s t l n c ty x y f g) trivial (iR H hH E hE' S hS' s t l n c ty _) rfl fun g=>aB.ret (zr H hH E hE' S hS' s t l n c ty _ _ g) rfl
theorem bz (hH:H=hV) (E:B32) (hE':E=hE) (S:Nd→B32) (hS':S=hS) (s t:B32) (l:List Lk) (n c:Nat) (ty:TypeId) (x:B32) (e:Int) (y:B32) (f:Int) (g:Nat→SV):outN [0,1,2,3,4] (M5 H hH E hE' S hS' s t l n c ty e f) (exec (Γ H hH E hE' S hS' ) tys 100 (cpre 2 S3) ⟨fill g 0 (Dz H hH E hE' S hS' s t l n c ty ),m0 H hH E hE' S hS' s t l n c ty ,[(50,[.s (hsS (x,e))]),(55,[.s (hsS (y,f))])]⟩)=some (.normal,(live (M5 H hH E hE' S hS' s t l n c ty e f)).map (SV.ren (piF [0,1,2,3,4])),(M5 H hH E hE' S hS' s t l n c ty e f).length,(mf H hH E hE' S hS' s t l n c ty x y).map (fun b=>some (b.ren (piF [0,1,2,3,4]))),[hsS (rofR H E S [])=hsS (x,e),hsS (rofR H E S [])=hsS (y,f)]):=by kernel_rfl
theorem bs (hH:H=hV) (E:B32) (hE':E=hE) (S:Nd→B32) (hS':S=hS) (s t:B32) (l:List Lk) (n c:Nat) (ty:TypeId) (us vs:List Value) (x:B32) (e:Int) (y:B32) (f:Int) (g:Nat→SV):outN [0,1,2,5,6] (M5 H hH E hE' S hS' s t l n c ty e f) (exec (Γ H hH E hE' S hS' ) tys 100 (cpre 2 S3) ⟨fill g 0 (Ds H hH E hE' S hS' s t l n c ty n),ms H hH E hE' S hS' s t l n c ty us n none vs n none,[(50,[.s (hsS (x,e))]),(55,[.s (hsS (y,f))])]⟩)=some (.normal,(live (M5 H hH E hE' S hS' s t l n c ty e f)).map (SV.ren (piF [0,1,2,5,6])),(M5 H hH E hE' S hS' s t l n c ty e f).length,(mf H hH E hE' S hS' s t l n c ty x y).map (fun b=>some (b.ren (piF [0,1,2,5,6]))),[0+0+n*64≤us.length,n≤n,(us.drop (0+0)).take (n*64)=lvals (ay ((us.drop (0+0)).take (n*64))),(ay ((us.drop (0+0)).take (n*64))).length=n,n≤4000000,AllL (ay ((us.drop (0+0)).take (n*64))),hsS (rofR H E S (ay ((us.drop (0+0)).take (n*64))))=hsS (x,e),0+0+n*64≤vs.length,n≤n,(vs.drop (0+0)).take (n*64)=lvals (ay ((vs.drop (0+0)).take (n*64))),(ay ((vs.drop (0+0)).take (n*64))).length=n,n≤4000000,AllL (ay ((vs.drop (0+0)).take (n*64))),hsS (rofR H E S (ay ((vs.drop (0+0)).take (n*64))))=hsS (y,f)]):=by kernel_rfl
theorem run (hH:H=hV) (E:B32) (hE':E=hE) (S:Nd→B32) (hS':S=hS) (s t:B32) (l:List Lk) (n c:Nat) (ty:TypeId) (hn:l.length=n) (hb:n≤4000000) (hk:AllK l):av Tryd.prog GT 1 body (aF fn [cB32.enc s,cB32.enc t,.o (.a (.sld 0 0 0 n c))]) [⟨false,ty,.prv (aD l)⟩] (aB tys fn (aR (.o (.a (int1 .i64 (relV H E S s t l)))) .none)):=by
 refine Runs.bD aj mixed 2 (s0 H hH E hE' S hS' s t l n c ty) trivial (iM0 H hH E hE' S hS' s t l n c ty) rfl fun g=> ?_
 rw[bE]
 refine Runs.seq (Runs.seq (Runs.au aj mixed (a1 H hH E hE' S hS' s t l n c ty g) trivial (iMz H hH E hE' S hS' s t l n c ty) rfl fun g=> ?_))
 refine Runs.block ?_
 have e0:=rof_eq (show AllL [] from fun x hx=>by cases hx) H E S
 refine loop H hH E hE' S hS' s t l n c ty hn hb (fun h0 g=> ?_) (fun h0 g=> ?_) g
 ·subst h0
  obtain rfl:=List.eq_nil_of_length_eq_zero hn
  show av _ _ _ _ _ _ _
  exact Runs.of_outNP aj mixed 2 [0,1,2,3,4] (bz H hH E hE' S hS' s t [] 0 c ty (rofT H E S []).1 (rofT H E S []).2 (rofT H E S []).1 (rofT H E S []).2 g) ⟨by rw[e0],by rw[e0],trivial⟩ (i5 H hH E hE' S hS' s t [] 0 c ty _ _ _ _) (by kernel_rfl) fun g=>tail H hH E hE' S hS' s t [] 0 c ty _ _ (rof_01 H E S _) (rof_01 H E S _) g
 ·show av _ _ _ _ _ _ _
  have lo:(olds l).length=n:=by rw[olds_len,hn]
  have le:(news l).length=n:=by rw[news_len,hn]
  have q:=bs H hH E hE' S hS' s t l n c ty (lvals (olds l)) (lvals (news l)) (rofT H E S (olds l)).1 (rofT H E S (olds l)).2 (rofT H E S (news l)).1 (rofT H E S (news l)).2 g
  rw[dtl lo,dtl le,bP,bP,rof_eq (olds_ok hk),rof_eq (news_ok hk)] at q
  refine Runs.of_outNP aj mixed 2 [0,1,2,5,6] q ⟨by rw[bM,lo];omega,Nat.le_refl _,rfl,lo,hb,olds_ok hk,rfl,by rw[bM,le];omega,Nat.le_refl _,rfl,le,hb,news_ok hk,rfl,trivial⟩ (i5 H hH E hE' S hS' s t l n c ty _ _ _ _) (by kernel_rfl) fun g=> ?_
  exact tail H hH E hE' S hS' s t l n c ty _ _ (rof_01 H E S _) (rof_01 H E S _) g
end
end w
namespace n
section
variable (H:Nd→Nd→B32)
def m0 (hH:H=hV) (E:B32) (hE':E=hE) (S:Nd→B32) (hS':S=hS) (s t:B32) (a:Option Addr):List Blk:=[⟨true,24,.lit (cB32.row s)⟩,⟨true,24,.lit (cB32.row t)⟩]
def M0 (hH:H=hV) (E:B32) (hE':E=hE) (S:Nd→B32) (hS':S=hS) (s t:B32) (a:Option Addr):List (Option SV):=aC 72 0 [(2,.o (.a (.v (.slice a 0 0)))),(3,.o (.a (.ptr 0 0))),(4,.o (.a (.ptr 1 0))),(7,.o (.a (.v (.slice none 0 0)))),(8,.o (.a (.v (.slice none 0 0))))]
def Mz (hH:H=hV) (E:B32) (hE':E=hE) (S:Nd→B32) (hS':S=hS) (s t:B32) (a:Option Addr):List (Option SV):=aC 72 0 [(2,.o (.a (.v (.slice a 0 0)))),(3,.o (.a (.ptr 0 0))),(4,.o (.a (.ptr 1 0))),(7,.o (.a (.v (.slice none 0 0)))),(8,.o (.a (.v (.slice none 0 0)))),(15,.o (.a (int1 .i64 0))),(16,.o (.a (int1 .i64 0)))]
def Dz (hH:H=hV) (E:B32) (hE':E=hE) (S:Nd→B32) (hS':S=hS) (s t:B32) (a:Option Addr):List (Option SV):=aC 72 0 [(2,.o (.a (.v (.slice a 0 0)))),(3,.o (.a (.ptr 0 0))),(4,.o (.a (.ptr 1 0))),(7,.o (.a (.v (.slice none 0 0)))),(8,.o (.a (.v (.slice none 0 0))))]
theorem iM0 (hH:H=hV) (E:B32) (hE':E=hE) (S:Nd→B32) (hS':S=hS) (s t:B32) (a:Option Addr):aA (m0 H hH E hE' S hS' s t a ).length (M0 H hH E hE' S hS' s t a ) (m0 H hH E hE' S hS' s t a )=true:=by kernel_rfl
theorem iMz (hH:H=hV) (E:B32) (hE':E=hE) (S:Nd→B32) (hS':S=hS) (s t:B32) (a:Option Addr):aA (m0 H hH E hE' S hS' s t a ).length (Mz H hH E hE' S hS' s t a ) (m0 H hH E hE' S hS' s t a )=true:=by kernel_rfl
theorem iDz (hH:H=hV) (E:B32) (hE':E=hE) (S:Nd→B32) (hS':S=hS) (s t:B32) (a:Option Addr):aA (m0 H hH E hE' S hS' s t a ).length (Dz H hH E hE' S hS' s t a ) (m0 H hH E hE' S hS' s t a )=true:=by kernel_rfl
theorem a1 (hH:H=hV) (E:B32) (hE':E=hE) (S:Nd→B32) (hS':S=hS) (s t:B32) (a:Option Addr) (g:Nat→SV):outX (m0 H hH E hE' S hS' s t a ).length (Mz H hH E hE' S hS' s t a ) (exec ([]:Cons Tryd.prog GT) tys 300 A2 ⟨fill g 0 (M0 H hH E hE' S hS' s t a ),m0 H hH E hE' S hS' s t a ,[]⟩)=some (.normal,live (Mz H hH E hE' S hS' s t a ),(Mz H hH E hE' S hS' s t a ).length,m0 H hH E hE' S hS' s t a ,[]):=by kernel_rfl
theorem oz (hH:H=hV) (E:B32) (hE':E=hE) (S:Nd→B32) (hS':S=hS) (s t:B32) (a:Option Addr) (g:Nat→SV):outX (m0 H hH E hE' S hS' s t a ).length (Dz H hH E hE' S hS' s t a ) (exec ([]:Cons Tryd.prog GT) tys 300 L ⟨fill g 0 (Mz H hH E hE' S hS' s t a ),m0 H hH E hE' S hS' s t a ,[]⟩)=some ((.exit 0),live (Dz H hH E hE' S hS' s t a ),(Dz H hH E hE' S hS' s t a ).length,m0 H hH E hE' S hS' s t a ,[]):=by kernel_rfl
theorem s0 (hH:H=hV) (E:B32) (hE':E=hE) (S:Nd→B32) (hS':S=hS) (s t:B32) (a:Option Addr):outX (m0 H hH E hE' S hS' s t a ).length (M0 H hH E hE' S hS' s t a ) (exec ([]:Cons Tryd.prog GT) tys 300 (cpre 2 body) ⟨aF fn [cB32.enc s,cB32.enc t,.o (.a (.v (.slice a 0 0)))],[],[]⟩)=some (.normal,live (M0 H hH E hE' S hS' s t a ),(M0 H hH E hE' S hS' s t a ).length,m0 H hH E hE' S hS' s t a ,[]):=by kernel_rfl
def mo (hH:H=hV) (E:B32) (hE':E=hE) (S:Nd→B32) (hS':S=hS) (s t:B32) (a:Option Addr):List Blk:=[]
def mf (hH:H=hV) (E:B32) (hE':E=hE) (S:Nd→B32) (hS':S=hS) (s t:B32) (a:Option Addr) (x y:B32):List Blk:=[⟨true,24,.lit (cB32.row s)⟩,⟨true,24,.lit (cB32.row t)⟩,⟨true,24,.lit (cB32.row x)⟩,⟨true,24,.lit (cB32.row y)⟩]
def MR (hH:H=hV) (E:B32) (hE':E=hE) (S:Nd→B32) (hS':S=hS) (s t:B32) (a:Option Addr) (e:Int):List (Option SV):=aC 72 0 [(6,.o (.a (int1 .i64 e)))]
theorem iR (hH:H=hV) (E:B32) (hE':E=hE) (S:Nd→B32) (hS':S=hS) (s t:B32) (a:Option Addr) (e:Int):aA (mo H hH E hE' S hS' s t a ).length (MR H hH E hE' S hS' s t a e) (mo H hH E hE' S hS' s t a )=true:=by kernel_rfl
def M5 (hH:H=hV) (E:B32) (hE':E=hE) (S:Nd→B32) (hS':S=hS) (s t:B32) (a:Option Addr) (e f:Int):List (Option SV):=aC 72 0 [(3,.o (.a (.ptr 0 0))),(4,.o (.a (.ptr 1 0))),(10,.o (.a (.ptr 2 0))),(11,.o (.a (int1 .i64 e))),(12,.o (.a (.ptr 3 0))),(13,.o (.a (int1 .i64 f)))]
theorem i5 (hH:H=hV) (E:B32) (hE':E=hE) (S:Nd→B32) (hS':S=hS) (s t:B32) (a:Option Addr) (e f:Int) (x y:B32):aA (mf H hH E hE' S hS' s t a x y).length (M5 H hH E hE' S hS' s t a e f) (mf H hH E hE' S hS' s t a x y)=true:=by kernel_rfl
theorem t1 (hH:H=hV) (E:B32) (hE':E=hE) (S:Nd→B32) (hS':S=hS) (s t:B32) (a:Option Addr) (x y:B32) (f:Int) (g:Nat→SV):outX (mo H hH E hE' S hS' s t a ).length (MR H hH E hE' S hS' s t a 1) (exec ([]:Cons Tryd.prog GT) tys 300 T ⟨fill g 0 (M5 H hH E hE' S hS' s t a 1 f),mf H hH E hE' S hS' s t a x y,[]⟩)=some (.ret,live (MR H hH E hE' S hS' s t a 1),(MR H hH E hE' S hS' s t a 1).length,mo H hH E hE' S hS' s t a ,[]):=by kernel_rfl
theorem t2 (hH:H=hV) (E:B32) (hE':E=hE) (S:Nd→B32) (hS':S=hS) (s t:B32) (a:Option Addr) (x y:B32) (g:Nat→SV):outX (mo H hH E hE' S hS' s t a ).length (MR H hH E hE' S hS' s t a 1) (exec ([]:Cons Tryd.prog GT) tys 300 T ⟨fill g 0 (M5 H hH E hE' S hS' s t a 0 1),mf H hH E hE' S hS' s t a x y,[]⟩)=some (.ret,live (MR H hH E hE' S hS' s t a 1),(MR H hH E hE' S hS' s t a 1).length,mo H hH E hE' S hS' s t a ,[]):=by kernel_rfl
theorem t3 (hH:H=hV) (E:B32) (hE':E=hE) (S:Nd→B32) (hS':S=hS) (s t:B32) (a:Option Addr) (x y:B32) (g:Nat→SV):outX (mo H hH E hE' S hS' s t a ).length (MR H hH E hE' S hS' s t a 3) (exec ([]:Cons Tryd.prog GT) tys 300 T ⟨fill g 0 (M5 H hH E hE' S hS' s t a 0 0),mf H hH E hE' S hS' s t a x y,[(66,[.b true])]⟩)=some (.ret,live (MR H hH E hE' S hS' s t a 3),(MR H hH E hE' S hS' s t a 3).length,mo H hH E hE' S hS' s t a ,[(!eqL x.to s.to)=true]):=by kernel_rfl
theorem t4 (hH:H=hV) (E:B32) (hE':E=hE) (S:Nd→B32) (hS':S=hS) (s t:B32) (a:Option Addr) (x y:B32) (g:Nat→SV):outX (mo H hH E hE' S hS' s t a ).length (MR H hH E hE' S hS' s t a 3) (exec ([]:Cons Tryd.prog GT) tys 300 T ⟨fill g 0 (M5 H hH E hE' S hS' s t a 0 0),mf H hH E hE' S hS' s t a x y,[(66,[.b false]),(70,[.b true])]⟩)=some (.ret,live (MR H hH E hE' S hS' s t a 3),(MR H hH E hE' S hS' s t a 3).length,mo H hH E hE' S hS' s t a ,[(!eqL x.to s.to)=false,(!eqL y.to t.to)=true]):=by kernel_rfl
theorem t5 (hH:H=hV) (E:B32) (hE':E=hE) (S:Nd→B32) (hS':S=hS) (s t:B32) (a:Option Addr) (x y:B32) (g:Nat→SV):outX (mo H hH E hE' S hS' s t a ).length (MR H hH E hE' S hS' s t a 0) (exec ([]:Cons Tryd.prog GT) tys 300 T ⟨fill g 0 (M5 H hH E hE' S hS' s t a 0 0),mf H hH E hE' S hS' s t a x y,[(66,[.b false]),(70,[.b false])]⟩)=some (.ret,live (MR H hH E hE' S hS' s t a 0),(MR H hH E hE' S hS' s t a 0).length,mo H hH E hE' S hS' s t a ,[(!eqL x.to s.to)=false,(!eqL y.to t.to)=false]):=by kernel_rfl
theorem zr (hH:H=hV) (E:B32) (hE':E=hE) (S:Nd→B32) (hS':S=hS) (s t:B32) (a:Option Addr) (e:Int) (mm:Nat→Option Blk) (g:Nat→SV):eRes tys (fill g 0 (MR H hH E hE' S hS' s t a e)) mm fn.results.toList=some [.a (int1 .i64 e)]:=by kernel_rfl
theorem tail (hH:H=hV) (E:B32) (hE':E=hE) (S:Nd→B32) (hS':S=hS) (s t:B32) (a:Option Addr) (x y:B32 × Int) (hx:x.2=0∨x.2=1) (hy:y.2=0∨y.2=1) (g:Nat→SV):av Tryd.prog GT 0 T (fill g 0 (M5 H hH E hE' S hS' s t a x.2 y.2)) (mf H hH E hE' S hS' s t a x.1 y.1) (aB tys fn (aR (.o (.a (int1 .i64 (chkV x y s t)))) .none)):=by
 obtain⟨x,e⟩:=x
 obtain⟨y,f⟩:=y
 rcases hx with rfl | rfl
 ·rcases hy with rfl | rfl
  ·cases h1:eqL x.to s.to with
   | false=>
    refine Runs.au aj mixed (t3 H hH E hE' S hS' s t a x y g) ⟨by rw[h1];rfl,trivial⟩ (iR H hH E hE' S hS' s t a _) rfl fun g=>aB.ret (zr H hH E hE' S hS' s t a _ _ g) ?_
    unfold chkV;rw[h1];rfl
   | true=>
    cases h2:eqL y.to t.to with
    | false=>
     refine Runs.au aj mixed (t4 H hH E hE' S hS' s t a x y g) ⟨by rw[h1];rfl,by rw[h2];rfl,trivial⟩ (iR H hH E hE' S hS' s t a _) rfl fun g=>aB.ret (zr H hH E hE' S hS' s t a _ _ g) ?_
     unfold chkV;rw[h1,h2];rfl
    | true=>
     refine Runs.au aj mixed (t5 H hH E hE' S hS' s t a x y g) ⟨by rw[h1];rfl,by rw[h2];rfl,trivial⟩ (iR H hH E hE' S hS' s t a _) rfl fun g=>aB.ret (zr H hH E hE' S hS' s t a _ _ g) ?_
     unfold chkV;rw[h1,h2];rfl
  ·exact Runs.au aj mixed (t2 H hH E hE' S hS' s t a x y g) trivial (iR H hH E hE' S hS' s t a _) rfl fun g=>aB.ret (zr H hH E hE' S hS' s t a _ _ g) rfl
 ·exact Runs.au aj mixed (t1 H hH E hE' S hS' s t a x y f g) trivial (iR H hH E hE' S hS' s t a _) rfl fun g=>aB.ret (zr H hH E hE' S hS' s t a _ _ g) rfl
theorem bz (hH:H=hV) (E:B32) (hE':E=hE) (S:Nd→B32) (hS':S=hS) (s t:B32) (a:Option Addr) (x:B32) (e:Int) (y:B32) (f:Int) (g:Nat→SV):outN [0,1,2,3] (M5 H hH E hE' S hS' s t a e f) (exec (Γ H hH E hE' S hS' ) tys 100 (cpre 2 S3) ⟨fill g 0 (Dz H hH E hE' S hS' s t a ),m0 H hH E hE' S hS' s t a ,[(50,[.s (hsS (x,e))]),(55,[.s (hsS (y,f))])]⟩)=some (.normal,(live (M5 H hH E hE' S hS' s t a e f)).map (SV.ren (piF [0,1,2,3])),(M5 H hH E hE' S hS' s t a e f).length,(mf H hH E hE' S hS' s t a x y).map (fun b=>some (b.ren (piF [0,1,2,3]))),[hsS (rofR H E S [])=hsS (x,e),hsS (rofR H E S [])=hsS (y,f)]):=by kernel_rfl
theorem run (hH:H=hV) (E:B32) (hE':E=hE) (S:Nd→B32) (hS':S=hS) (s t:B32) (a:Option Addr):av Tryd.prog GT 0 body (aF fn [cB32.enc s,cB32.enc t,.o (.a (.v (.slice a 0 0)))]) [] (aB tys fn (aR (.o (.a (int1 .i64 (relV H E S s t [])))) .none)):=by
 refine Runs.bD aj mixed 2 (s0 H hH E hE' S hS' s t a) trivial (iM0 H hH E hE' S hS' s t a) rfl fun g=> ?_
 rw[bE]
 refine Runs.seq (Runs.seq (Runs.au aj mixed (a1 H hH E hE' S hS' s t a g) trivial (iMz H hH E hE' S hS' s t a) rfl fun g=> ?_))
 refine Runs.block ?_
 have e0:=rof_eq (show AllL [] from fun x hx=>by cases hx) H E S
 refine Runs.loopX (fun(_:Unit)=>Mz H hH E hE' S hS' s t a) (fun _=>m0 H hH E hE' S hS' s t a) (fun _=>True) (fun _=>0) ?_ () trivial g
 rintro _ g _
 refine Runs.au aj mixed (oz H hH E hE' S hS' s t a g) trivial (iDz H hH E hE' S hS' s t a) rfl fun g=> ?_
 show av _ _ _ _ _ _ _
 exact Runs.of_outNP aj mixed 2 [0,1,2,3] (bz H hH E hE' S hS' s t a (rofT H E S []).1 (rofT H E S []).2 (rofT H E S []).1 (rofT H E S []).2 g) ⟨by rw[e0],by rw[e0],trivial⟩ (i5 H hH E hE' S hS' s t a _ _ _ _) (by kernel_rfl) fun g=>tail H hH E hE' S hS' s t a _ _ (rof_01 H E S _) (rof_01 H E S _) g
end
end n
noncomputable def spec (H:Nd→Nd→B32) (E:B32) (S:Nd→B32):List PArg→Option (SV × LEff × Cst)
 | [.val u,.val v,.winv _ vs n ty]=>match cB32.dec u,cB32.dec v with
  | some s,some t=>some (.o (.a (int1 .i64 (relV H E S s t (aT vs)))),.none,[vs=aD (aT vs),(aT vs).length=n,n≤4000000,AllK (aT vs)])
  | _,_=>none
 | [.val u,.val v,.val (.o (.a (.v (.slice a 0 0))))]=>match cB32.dec u,cB32.dec v with
  | some s,some t=>some (.o (.a (int1 .i64 (relV H E S s t []))),.none,[])
  | _,_=>none
 | _=>none
noncomputable def con (H:Nd→Nd→B32) (hH:H=hV) (E:B32) (hE':E=hE) (S:Nd→B32) (hS':S=hS):Con Tryd.prog GT:=Con.parts aj 53 fn Tryd.func53 (by kernel_rfl) (c:=body) (by kernel_rfl) [.val,.val,.winv 96] (spec H E S)
 (fun ps r e p h hp=>by
  unfold spec at h
  split at h
  ·split at h<;>cases h
   exact⟨rfl,fun b hb=>by simp only[aN,PArg.blk,List.append_nil,List.nil_append,List.mem_singleton] at hb;rw[hb]⟩
  ·split at h<;>cases h
   exact⟨rfl,fun b hb=>by simp[aN,PArg.blk] at hb⟩
  ·cases h)
 (fun ps r e p cap h hp hi=>by
  unfold spec at h
  split at h
  ·rename_i u v s1 vs n ty
   split at h<;>cases h
   rename_i s t k1 k2
   have e1:=cB32.ok _ _ k1
   have e2:=cB32.ok _ _ k2
   subst e1 e2
   obtain⟨p1,p2,p3,p4,_⟩:=hp
   have q:=w.run H hH E hE' S hS' s t (aT vs) n (cap 0) ty p2 p3 p4
   rw[←p1] at q
   exact q
  ·rename_i u v a
   split at h<;>cases h
   rename_i s t k1 k2
   have e1:=cB32.ok _ _ k1
   have e2:=cB32.ok _ _ k2
   subst e1 e2
   exact n.run H hH E hE' S hS' s t a
  ·cases h)
end rrl
end Go.Proofs.YtdccehmekkcheaaDoor
