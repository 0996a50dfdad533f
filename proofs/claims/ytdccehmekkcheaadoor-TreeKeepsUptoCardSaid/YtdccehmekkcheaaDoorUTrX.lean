/- beaconref11.Nodes: facts of the walk. -/
import Derived.Test.YtdccehmekkcheaaDoorUTrW
namespace Go.Proofs.YtdccehmekkcheaaDoor
open Go Go.Eng Go.RowKit
set_option linter.unusedVariables false
set_option linter.unusedSimpArgs false
set_option maxRecDepth 100000
namespace rnd
noncomputable abbrev fn:=Tryd.f24
noncomputable def body:Code:=bq fn
noncomputable def L:Code:=cL (cB (cs2 (cs1 (csuf 2 body))))
noncomputable def A1:Code:=cs1 (cs1 (csuf 2 body))
noncomputable def D:Code:=cs2 (csuf 2 body)
noncomputable def X:Code:=cB (cs1 (csuf 2 L))
noncomputable def R14:Code:=cs2 (csuf 2 L)
noncomputable def LI:Code:=cL (cB (cs1 (csuf 3 X)))
noncomputable def E:Code:=cs1 (cs2 (csuf 3 X))
noncomputable def R11:Code:=cs1 (cs2 (cs2 (csuf 3 X)))
noncomputable def T:Code:=cs2 (cs2 (cs2 (csuf 3 X)))
noncomputable def Γ:Cons Tryd.prog GT:=[rleaf.con,blw.con]
theorem bG:csuf 2 body= .seq (.seq A1 (.block 0 (.loop L))) D:=by kernel_rfl
theorem suf_L:csuf 2 L= .seq (.block 1 X) R14:=by kernel_rfl
theorem suf_X:csuf 3 X= .seq (.block 2 (.loop LI)) (.seq E (.seq R11 T)):=by kernel_rfl
section
variable (l:List Lf) (ty:TypeId)
def m0:List Blk:=[⟨false,ty,.prv (lvals l)⟩]
def mz (x:Nd):List Blk:=[⟨false,ty,.prv (lvals l)⟩,⟨true,33,.lit x.row⟩]
def ms (vs:List Value) (lo:Nat) (hi:Option Nat):List Blk:=[⟨false,ty,.prv (lvals l)⟩,⟨true,33,.grv 65 vs lo hi⟩]
def mx (vs:List Value) (lo:Nat) (hi:Option Nat) (x:Nd):List Blk:=[⟨false,ty,.prv (lvals l)⟩,⟨true,33,.grv 65 vs lo hi⟩,⟨true,33,.lit x.row⟩]
end
def M0 (l:List Lf) (n c:Nat) (ty:TypeId):List (Option SV):=aF 66 0 [(0,.o (.a (.sld 0 0 0 n c))),(4,.o (.a (.v (.slice none 0 0))))]
def MAz (l:List Lf) (n c:Nat) (ty:TypeId):List (Option SV):=aF 66 0 [(0,.o (.a (.sld 0 0 0 n c))),(4,.o (.a (.v (.slice none 0 0)))),(9,.o (.a (int1 .i64 n))),(10,.o (.a (int1 .i64 0)))]
def MBz (l:List Lf) (n c:Nat) (ty:TypeId):List (Option SV):=aF 66 0 [(0,.o (.a (.sld 0 0 0 n c))),(4,.o (.a (.v (.slice none 0 0)))),(6,.o (.a (.ptr 1 0))),(7,.o (.a (int1 .i64 0))),(9,.o (.a (int1 .i64 n))),(10,.o (.a (int1 .i64 0)))]
def MAs (l:List Lf) (n c:Nat) (ty:TypeId) (i:Int) (r:Nat):List (Option SV):=aF 66 0 [(0,.o (.a (.sld 0 0 0 n c))),(4,.o (.a (.slg 1 r))),(9,.o (.a (int1 .i64 n))),(10,.o (.a (int1 .i64 i)))]
def MBs (l:List Lf) (n c:Nat) (ty:TypeId) (i:Int) (r:Nat) (k:Int):List (Option SV):=aF 66 0 [(0,.o (.a (.sld 0 0 0 n c))),(4,.o (.a (.slg 1 r))),(6,.o (.a (.ptr 2 0))),(7,.o (.a (int1 .i64 k))),(9,.o (.a (int1 .i64 n))),(10,.o (.a (int1 .i64 i)))]
def MTs (l:List Lf) (n c:Nat) (ty:TypeId) (i:Int) (r:Nat) (k:Int) (R:Nat):List (Option SV):=aF 66 0 [(0,.o (.a (.sld 0 0 0 n c))),(4,.o (.a (.sld 1 0 0 r R))),(6,.o (.a (.ptr 2 0))),(7,.o (.a (int1 .i64 k))),(9,.o (.a (int1 .i64 n))),(10,.o (.a (int1 .i64 i)))]
def MUs (l:List Lf) (n c:Nat) (ty:TypeId) (i:Int) (r:Nat) (R:Nat):List (Option SV):=aF 66 0 [(0,.o (.a (.sld 0 0 0 n c))),(4,.o (.a (.sld 1 0 0 r R))),(9,.o (.a (int1 .i64 n))),(10,.o (.a (int1 .i64 i)))]
def MDz (l:List Lf) (n c:Nat) (ty:TypeId):List (Option SV):=aF 66 0 [(4,.o (.a (.v (.slice none 0 0))))]
def MDs (l:List Lf) (n c:Nat) (ty:TypeId) (r:Nat):List (Option SV):=aF 66 0 [(4,.o (.a (.slg 1 r)))]
def MRz (l:List Lf) (n c:Nat) (ty:TypeId):List (Option SV):=aF 66 0 [(2,.o (.a (.v (.slice none 0 0)))),(3,.o (.a (.v (.bool true))))]
def MRs (l:List Lf) (n c:Nat) (ty:TypeId) (r:Nat):List (Option SV):=aF 66 0 [(2,.o (.a (.slg 1 r))),(3,.o (.a (.v (.bool true))))]
def MRd (l:List Lf) (n c:Nat) (ty:TypeId):List (Option SV):=aF 66 0 [(2,.o (.a (.v (.slice none 0 0)))),(3,.o (.a (.v (.bool false))))]
section
variable (l:List Lf) (n c:Nat) (ty:TypeId)
theorem i0:aD (m0 l ty).length (M0 l n c ty ) (m0 l ty)=true:=by kernel_rfl
theorem iAz:aD (m0 l ty).length (MAz l n c ty ) (m0 l ty)=true:=by kernel_rfl
theorem iBz (x:Nd):aD (mz l ty x).length (MBz l n c ty ) (mz l ty x)=true:=by kernel_rfl
theorem iAs (vs:List Value) (lo:Nat) (hi:Option Nat) (i:Int) (r:Nat):aD (ms l ty vs lo hi).length (MAs l n c ty i r) (ms l ty vs lo hi)=true:=by kernel_rfl
theorem iBs (vs:List Value) (lo:Nat) (hi:Option Nat) (i:Int) (r:Nat) (k:Int) (x:Nd):aD (mx l ty vs lo hi x).length (MBs l n c ty i r k) (mx l ty vs lo hi x)=true:=by kernel_rfl
theorem iUs (vs:List Value) (lo:Nat) (hi:Option Nat) (i:Int) (r:Nat) (R:Nat):aD (ms l ty vs lo hi).length (MUs l n c ty i r R) (ms l ty vs lo hi)=true:=by kernel_rfl
theorem iDz:aD (m0 l ty).length (MDz l n c ty ) (m0 l ty)=true:=by kernel_rfl
theorem iDs (vs:List Value) (lo:Nat) (hi:Option Nat) (r:Nat):aD (ms l ty vs lo hi).length (MDs l n c ty r) (ms l ty vs lo hi)=true:=by kernel_rfl
theorem iRz:aD (m0 l ty).length (MRz l n c ty ) (m0 l ty)=true:=by kernel_rfl
theorem iRs (vs:List Value) (lo:Nat) (hi:Option Nat) (r:Nat):aD (ms l ty vs lo hi).length (MRs l n c ty r) (ms l ty vs lo hi)=true:=by kernel_rfl
theorem iRd (vs:List Value) (lo:Nat) (hi:Option Nat) (x:Nd):aD (mx l ty vs lo hi x).length (MRd l n c ty ) (mx l ty vs lo hi x)=true:=by kernel_rfl
theorem s0:outX (m0 l ty).length (M0 l n c ty ) (exec Γ tys 300 (cpre 2 body) ⟨aH fn [.o (.a (.sld 0 0 0 n c))],[⟨false,ty,.prv (lvals l)⟩],[]⟩)=some (.normal,live (M0 l n c ty ),(M0 l n c ty ).length,m0 l ty,[]):=by kernel_rfl
theorem a1 (g:Nat→SV):outX (m0 l ty).length (MAz l n c ty ) (exec Γ tys 300 A1 ⟨fill g 0 (M0 l n c ty ),m0 l ty,[]⟩)=some (.normal,live (MAz l n c ty ),(MAz l n c ty ).length,m0 l ty,[]):=by kernel_rfl
theorem otz (g:Nat→SV):outX (m0 l ty).length (MDz l n c ty ) (exec Γ tys 300 L ⟨fill g 0 (MAz l n c ty ),m0 l ty,[(11,[.b false])]⟩)=some ((.exit 0),live (MDz l n c ty ),(MDz l n c ty ).length,m0 l ty,[decide ((0:Int)<n)=false]):=by kernel_rfl
theorem ots (vs:List Value) (lo:Nat) (hi:Option Nat) (i:Int) (r:Nat) (g:Nat→SV):outX (ms l ty vs lo hi).length (MDs l n c ty r) (exec Γ tys 300 L ⟨fill g 0 (MAs l n c ty i r),ms l ty vs lo hi,[(11,[.b false])]⟩)=some ((.exit 0),live (MDs l n c ty r),(MDs l n c ty r).length,ms l ty vs lo hi,[decide (i<n)=false]):=by kernel_rfl
theorem hdz (g:Nat→SV):outX (m0 l ty).length (MAz l n c ty ) (exec Γ tys 300 (cpre 2 L) ⟨fill g 0 (MAz l n c ty ),m0 l ty,[(11,[.b true])]⟩)=some (.normal,live (MAz l n c ty ),(MAz l n c ty ).length,m0 l ty,[decide ((0:Int)<n)=true]):=by kernel_rfl
theorem hds (vs:List Value) (lo:Nat) (hi:Option Nat) (i:Int) (r:Nat) (g:Nat→SV):outX (ms l ty vs lo hi).length (MAs l n c ty i r) (exec Γ tys 300 (cpre 2 L) ⟨fill g 0 (MAs l n c ty i r),ms l ty vs lo hi,[(11,[.b true])]⟩)=some (.normal,live (MAs l n c ty i r),(MAs l n c ty i r).length,ms l ty vs lo hi,[decide (i<n)=true]):=by kernel_rfl
theorem lfz (z:Lf) (x:Nd) (g:Nat→SV):outX (mz l ty x).length (MBz l n c ty ) (exec Γ tys 300 (cpre 3 X) ⟨fill g 0 (MAz l n c ty ),m0 l ty,[(16,[.ds (cLf.enc z)]),(17,[.s (cNd.enc x)])]⟩)=some (.normal,live (MBz l n c ty ),(MBz l n c ty ).length,mz l ty x,[0≤(0:Int),(0:Int)<n,0+offI 0 0 64+64≤(lvals l).length,SV.o (.g (aZ (lvals l) (0+offI 0 0 64) 64))=cLf.enc z,LOk z,cNd.enc (leafV z)=cNd.enc x]):=by kernel_rfl
theorem lfs (vs:List Value) (lo:Nat) (hi:Option Nat) (i:Int) (r:Nat) (z:Lf) (x:Nd) (g:Nat→SV):outX (mx l ty vs lo hi x).length (MBs l n c ty i r r) (exec Γ tys 300 (cpre 3 X) ⟨fill g 0 (MAs l n c ty i r),ms l ty vs lo hi,[(16,[.ds (cLf.enc z)]),(17,[.s (cNd.enc x)])]⟩)=some (.normal,live (MBs l n c ty i r r),(MBs l n c ty i r r).length,mx l ty vs lo hi x,[0≤i,i<n,0+offI 0 i 64+64≤(lvals l).length,SV.o (.g (aZ (lvals l) (0+offI 0 i 64) 64))=cLf.enc z,LOk z,cNd.enc (leafV z)=cNd.enc x]):=by kernel_rfl
theorem inz (x:Nd) (g:Nat→SV):outX (mz l ty x).length (MBz l n c ty ) (exec Γ tys 300 LI ⟨fill g 0 (MBz l n c ty ),mz l ty x,[]⟩)=some ((.exit 2),live (MBz l n c ty ),(MBz l n c ty ).length,mz l ty x,[]):=by kernel_rfl
theorem in0 (vs:List Value) (lo:Nat) (hi:Option Nat) (i:Int) (r:Nat) (k:Int) (x:Nd) (g:Nat→SV):outX (mx l ty vs lo hi x).length (MBs l n c ty i r k) (exec Γ tys 300 LI ⟨fill g 0 (MBs l n c ty i r k),mx l ty vs lo hi x,[(21,[.b false])]⟩)=some ((.exit 2),live (MBs l n c ty i r k),(MBs l n c ty i r k).length,mx l ty vs lo hi x,[decide (k>0)=false]):=by kernel_rfl
theorem inx (vs:List Value) (lo:Nat) (hi:Option Nat) (i:Int) (r:Nat) (k:Int) (x:Nd) (k':Int) (y:B32) (g:Nat→SV):outX (mx l ty vs lo hi x).length (MBs l n c ty i r k) (exec Γ tys 300 LI ⟨fill g 0 (MBs l n c ty i r k),mx l ty vs lo hi x,[(21,[.b true]),(27,[.n k']),(30,[.ds (cB32.enc y)]),(31,[.s (aI.enc false)])]⟩)=some ((.exit 2),live (MBs l n c ty i r k),(MBs l n c ty i r k).length,mx l ty vs lo hi x,[decide (k>0)=true,IntKind.i64.wrap (k-1)=k',0≤k',k'<r,0+(offI 0 k' 65+1)+32≤vs.length,SV.o (.g (aZ vs (0+(offI 0 k' 65+1)) 32))=cB32.enc y,BOk x.pre,BOk y,aI.enc (ltV x.pre y)=aI.enc false]):=by kernel_rfl
theorem ing (vs:List Value) (lo:Nat) (hi:Option Nat) (i:Int) (r:Nat) (k:Int) (x:Nd) (k':Int) (y:B32) (g:Nat→SV):outX (mx l ty vs lo hi x).length (MBs l n c ty i r k') (exec Γ tys 300 LI ⟨fill g 0 (MBs l n c ty i r k),mx l ty vs lo hi x,[(21,[.b true]),(27,[.n k']),(30,[.ds (cB32.enc y)]),(31,[.s (aI.enc true)]),(34,[.n k'])]⟩)=some (.normal,live (MBs l n c ty i r k'),(MBs l n c ty i r k').length,mx l ty vs lo hi x,[decide (k>0)=true,IntKind.i64.wrap (k-1)=k',0≤k',k'<r,0+(offI 0 k' 65+1)+32≤vs.length,SV.o (.g (aZ vs (0+(offI 0 k' 65+1)) 32))=cB32.enc y,BOk x.pre,BOk y,aI.enc (ltV x.pre y)=aI.enc true,IntKind.i64.wrap (k-1)=k']):=by kernel_rfl
theorem ez (x:Nd) (g:Nat→SV):outX (mz l ty x).length (MBz l n c ty ) (exec Γ tys 300 E ⟨fill g 0 (MBz l n c ty ),mz l ty x,[]⟩)=some (.normal,live (MBz l n c ty ),(MBz l n c ty ).length,mz l ty x,[]):=by kernel_rfl
theorem e0 (vs:List Value) (lo:Nat) (hi:Option Nat) (i:Int) (r:Nat) (k:Int) (x:Nd) (g:Nat→SV):outX (mx l ty vs lo hi x).length (MBs l n c ty i r k) (exec Γ tys 300 E ⟨fill g 0 (MBs l n c ty i r k),mx l ty vs lo hi x,[(36,[.b false])]⟩)=some (.normal,live (MBs l n c ty i r k),(MBs l n c ty i r k).length,mx l ty vs lo hi x,[decide (k>0)=false]):=by kernel_rfl
theorem en (vs:List Value) (lo:Nat) (hi:Option Nat) (i:Int) (r:Nat) (k:Int) (x:Nd) (k':Int) (y:B32) (g:Nat→SV):outX (mx l ty vs lo hi x).length (MBs l n c ty i r k) (exec Γ tys 300 E ⟨fill g 0 (MBs l n c ty i r k),mx l ty vs lo hi x,[(36,[.b true]),(40,[.n k']),(43,[.ds (cB32.enc y)]),(46,[.b false])]⟩)=some (.normal,live (MBs l n c ty i r k),(MBs l n c ty i r k).length,mx l ty vs lo hi x,[decide (k>0)=true,IntKind.i64.wrap (k-1)=k',0≤k',k'<r,0+(offI 0 k' 65+1)+32≤vs.length,SV.o (.g (aZ vs (0+(offI 0 k' 65+1)) 32))=cB32.enc y,eqL y.to x.pre.to=false]):=by kernel_rfl
theorem ed (vs:List Value) (lo:Nat) (hi:Option Nat) (i:Int) (r:Nat) (k:Int) (x:Nd) (k':Int) (y:B32) (g:Nat→SV):outX (mx l ty vs lo hi x).length (MRd l n c ty ) (exec Γ tys 300 E ⟨fill g 0 (MBs l n c ty i r k),mx l ty vs lo hi x,[(36,[.b true]),(40,[.n k']),(43,[.ds (cB32.enc y)]),(46,[.b true])]⟩)=some (.ret,live (MRd l n c ty ),(MRd l n c ty ).length,mx l ty vs lo hi x,[decide (k>0)=true,IntKind.i64.wrap (k-1)=k',0≤k',k'<r,0+(offI 0 k' 65+1)+32≤vs.length,SV.o (.g (aZ vs (0+(offI 0 k' 65+1)) 32))=cB32.enc y,eqL y.to x.pre.to=true]):=by kernel_rfl
theorem apz (x:Nd) (g:Nat→SV):outN [0,3,1] (MBs l n c ty 0 1 0) (exec Γ tys 100 R11 ⟨fill g 0 (MBz l n c ty ),mz l ty x,[(50,[.dyn])]⟩)=some (.normal,(live (MBs l n c ty 0 1 0)).map (SV.ren (piF [0,3,1])),(MBs l n c ty 0 1 0).length,(mx l ty zn.vals 1 none x).map (fun b=>some (b.ren (piF [0,3,1]))),[65=1*65,0+0+1*65≤65,0<1,Room Tryd.prog 33 1]):=by kernel_rfl
theorem apg (vs:List Value) (lo:Nat) (hi:Option Nat) (i:Int) (r:Nat) (k:Int) (x:Nd) (g:Nat→SV):outX (mx l ty (vs++zn.vals) (r+1) none x).length (MBs l n c ty i (r+1) k) (exec Γ tys 300 R11 ⟨fill g 0 (MBs l n c ty i r k),mx l ty vs (r+1) none x,[(50,[.dyn]),(51,[.dyn])]⟩)=some (.normal,live (MBs l n c ty i (r+1) k),(MBs l n c ty i (r+1) k).length,mx l ty (vs++zn.vals) (r+1) none x,[65=1*65,0+0+1*65≤65,r*65=vs.length,r+1≤r+1,∀v∈zn.vals,v.oneCell'=true]):=by kernel_rfl
theorem apr (vs:List Value) (lo:Nat) (hi:Option Nat) (i:Int) (r:Nat) (k:Int) (x:Nd) (g:Nat→SV):outN [0,4,2] (MBs l n c ty i (r+1) k) (exec Γ tys 100 R11 ⟨fill g 0 (MBs l n c ty i r k),mx l ty vs lo (some (r+1)) x,[(50,[.dyn]),(51,[.dyn])]⟩)=some (.normal,(live (MBs l n c ty i (r+1) k)).map (SV.ren (piF [0,4,2])),(MBs l n c ty i (r+1) k).length,(mx l ty (vs++zn.vals) (r+1) none x).map (fun b=>some (b.ren (piF [0,4,2]))),[65=1*65,0+0+1*65≤65,r*65=vs.length,r+1≤r+1,Room Tryd.prog 33 (r+1)]):=by kernel_rfl
theorem tt (vs:List Value) (i:Int) (r:Nat) (k k1:Int) (R:Nat) (x:Nd) (g:Nat→SV):outN [0,1] (MUs l n c ty i r R) (exec Γ tys 100 T ⟨fill g 0 (MTs l n c ty i r k R),mx l ty vs R (some (R+1)) x,[(54,[.n k1])]⟩)=some (.normal,(live (MUs l n c ty i r R)).map (SV.ren (piF [0,1])),(MUs l n c ty i r R).length,(ms l ty (putV (0+offI 0 k 65) x.vals (putV (0+advS R k1.toNat 0 65) (((vs.drop (0+advS R k.toNat 0 65)).take ((r-k.toNat)*65)).take (Nat.min (r-k.toNat) (r-k1.toNat)*65)) vs)) R (some (R+1))).map (fun b=>some (b.ren (piF [0,1]))),[IntKind.i64.wrap (k+1)=k1,0≤k1,k1≤r,(r:Int)≤R,0≤k,k≤r,(r:Int)≤R,(0+advS R k.toNat 0 65)+(r-k.toNat)*65≤vs.length,(0+advS R k1.toNat 0 65)+Nat.min (r-k.toNat) (r-k1.toNat)*65≤vs.length,∀v∈((vs.drop (0+advS R k.toNat 0 65)).take ((r-k.toNat)*65)),v.oneCell'=true,0≤k,k<r,0+offI 0 k 65+65≤(putV (0+advS R k1.toNat 0 65) (((vs.drop (0+advS R k.toNat 0 65)).take ((r-k.toNat)*65)).take (Nat.min (r-k.toNat) (r-k1.toNat)*65)) vs).length]):=by kernel_rfl
theorem nx (vs:List Value) (lo:Nat) (hi:Option Nat) (i:Int) (r:Nat) (i':Int) (g:Nat→SV):outX (ms l ty vs lo hi).length (MAs l n c ty i' r) (exec Γ tys 300 R14 ⟨fill g 0 (MAs l n c ty i r),ms l ty vs lo hi,[(64,[.n i'])]⟩)=some (.normal,live (MAs l n c ty i' r),(MAs l n c ty i' r).length,ms l ty vs lo hi,[IntKind.i64.wrap (i+1)=i']):=by kernel_rfl
theorem fz (g:Nat→SV):outX (m0 l ty).length (MRz l n c ty ) (exec Γ tys 300 D ⟨fill g 0 (MDz l n c ty ),m0 l ty,[]⟩)=some (.ret,live (MRz l n c ty ),(MRz l n c ty ).length,m0 l ty,[]):=by kernel_rfl
theorem fs (vs:List Value) (lo:Nat) (hi:Option Nat) (r:Nat) (g:Nat→SV):outX (ms l ty vs lo hi).length (MRs l n c ty r) (exec Γ tys 300 D ⟨fill g 0 (MDs l n c ty r),ms l ty vs lo hi,[]⟩)=some (.ret,live (MRs l n c ty r),(MRs l n c ty r).length,ms l ty vs lo hi,[]):=by kernel_rfl
theorem zz (g:Nat→SV):eRes tys (fill g 0 (MRz l n c ty )) (fun k=>(m0 l ty)[k]?) fn.results.toList=some [.a (.v (.slice none 0 0)),.a (.v (.bool true))]:=by kernel_rfl
theorem zs (vs:List Value) (lo:Nat) (hi:Option Nat) (r:Nat) (g:Nat→SV):eRes tys (fill g 0 (MRs l n c ty r)) (fun k=>(ms l ty vs lo hi)[k]?) fn.results.toList=some [.a (.slg 1 r),.a (.v (.bool true))]:=by kernel_rfl
theorem zd (vs:List Value) (lo:Nat) (hi:Option Nat) (x:Nd) (g:Nat→SV):eRes tys (fill g 0 (MRd l n c ty )) (fun k=>(mx l ty vs lo hi x)[k]?) fn.results.toList=some [.a (.v (.slice none 0 0)),.a (.v (.bool false))]:=by kernel_rfl
theorem setT (i:Int) (r:Nat) (k:Int) (R:Nat) (g:Nat→SV):(fill g 0 (MBs l n c ty i r k)).set 4 (.o (.a (.sld 1 0 0 r R)))=fill g 0 (MTs l n c ty i r k R):=by kernel_rfl
theorem setU (i:Int) (r:Nat) (R:Nat) (g:Nat→SV):(fill g 0 (MUs l n c ty i r R)).set 4 (.o (.a (.slg 1 r)))=fill g 0 (MAs l n c ty i r):=by kernel_rfl
end
end rnd
end Go.Proofs.YtdccehmekkcheaaDoor
