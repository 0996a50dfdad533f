/- beaconref11.Nodes: facts of the walk. -/
import Derived.Test.YtdccehmekkcheaaDoorYFo
import Derived.Test.YtdccehmekkcheaaDoorYTrW
namespace Go.Proofs.YtdccehmekkcheaaDoor
open Go Go.Eng Go.RowKit
set_option linter.unusedVariables false
set_option linter.unusedSimpArgs false
set_option maxRecDepth 100000
namespace rnd
noncomputable abbrev fn:=Tryd.f24
noncomputable def body:Code:=bG fn
noncomputable def L:Code:=cL (cB (cs2 (cs1 (csuf 2 body))))
noncomputable def A1:Code:=cs1 (cs1 (csuf 2 body))
noncomputable def D:Code:=cs2 (csuf 2 body)
noncomputable def X:Code:=cB (cs1 (csuf 2 L))
noncomputable def R14:Code:=cs2 (csuf 2 L)
noncomputable def LI:Code:=cL (cB (cs1 (csuf 3 X)))
noncomputable def E:Code:=cs1 (cs2 (csuf 3 X))
noncomputable def R11:Code:=cs1 (cs2 (cs2 (csuf 3 X)))
noncomputable def T:Code:=cs2 (cs2 (cs2 (csuf 3 X)))
noncomputable def Γ:Cons Tryd.prog GT:=[rleaf.con,blw.con]
theorem bN:csuf 2 body= .seq (.seq A1 (.block 0 (.loop L))) D:=by kernel_rfl
theorem suf_L:csuf 2 L= .seq (.block 1 X) R14:=by kernel_rfl
theorem suf_X:csuf 3 X= .seq (.block 2 (.loop LI)) (.seq E (.seq R11 T)):=by kernel_rfl
section
variable (l:List Lf) (ty:TypeId)
def m0:List Blk:=[⟨false,ty,.prv (lvals l)⟩]
def mz (x:Nd):List Blk:=[⟨false,ty,.prv (lvals l)⟩,⟨true,33,.lit x.row⟩]
def ms (vs:List Value) (lo:Nat) (hi:Option Nat):List Blk:=[⟨false,ty,.prv (lvals l)⟩,⟨true,33,.grv 65 vs lo hi⟩]
def mx (vs:List Value) (lo:Nat) (hi:Option Nat) (x:Nd):List Blk:=[⟨false,ty,.prv (lvals l)⟩,⟨true,33,.grv 65 vs lo hi⟩,⟨true,33,.lit x.row⟩]
end
def M0 (n c:Nat):List (Option SV):=aB 66 0 [(0,.o (.a (.sld 0 0 0 n c))),(4,.o (.a (.v (.slice none 0 0))))]
def MAz (n c:Nat):List (Option SV):=aB 66 0 [(0,.o (.a (.sld 0 0 0 n c))),(4,.o (.a (.v (.slice none 0 0)))),(9,.o (.a (int1 .i64 n))),(10,.o (.a (int1 .i64 0)))]
def MBz (n c:Nat):List (Option SV):=aB 66 0 [(0,.o (.a (.sld 0 0 0 n c))),(4,.o (.a (.v (.slice none 0 0)))),(6,.o (.a (.ptr 1 0))),(7,.o (.a (int1 .i64 0))),(9,.o (.a (int1 .i64 n))),(10,.o (.a (int1 .i64 0)))]
section
variable (n c:Nat) (i:Int) (r:Nat)
def MAs:List (Option SV):=aB 66 0 [(0,.o (.a (.sld 0 0 0 n c))),(4,.o (.a (.slg 1 r))),(9,.o (.a (int1 .i64 n))),(10,.o (.a (int1 .i64 i)))]
def MBs (k:Int):List (Option SV):=aB 66 0 [(0,.o (.a (.sld 0 0 0 n c))),(4,.o (.a (.slg 1 r))),(6,.o (.a (.ptr 2 0))),(7,.o (.a (int1 .i64 k))),(9,.o (.a (int1 .i64 n))),(10,.o (.a (int1 .i64 i)))]
def MTs (k:Int) (R:Nat):List (Option SV):=aB 66 0 [(0,.o (.a (.sld 0 0 0 n c))),(4,.o (.a (.sld 1 0 0 r R))),(6,.o (.a (.ptr 2 0))),(7,.o (.a (int1 .i64 k))),(9,.o (.a (int1 .i64 n))),(10,.o (.a (int1 .i64 i)))]
def MUs (R:Nat):List (Option SV):=aB 66 0 [(0,.o (.a (.sld 0 0 0 n c))),(4,.o (.a (.sld 1 0 0 r R))),(9,.o (.a (int1 .i64 n))),(10,.o (.a (int1 .i64 i)))]
end
def MDz:List (Option SV):=aB 66 0 [(4,.o (.a (.v (.slice none 0 0))))]
def MDs (r:Nat):List (Option SV):=aB 66 0 [(4,.o (.a (.slg 1 r)))]
def MRz:List (Option SV):=aB 66 0 [(2,.o (.a (.v (.slice none 0 0)))),(3,.o (.a (.v (.bool true))))]
def MRs (r:Nat):List (Option SV):=aB 66 0 [(2,.o (.a (.slg 1 r))),(3,.o (.a (.v (.bool true))))]
def MRd:List (Option SV):=aB 66 0 [(2,.o (.a (.v (.slice none 0 0)))),(3,.o (.a (.v (.bool false))))]
section
variable (l:List Lf)
theorem i0 (n c:Nat) (ty:TypeId):oI (M0 n c) (m0 l ty):=by delta oI;kernel_rfl
theorem iAz (n c:Nat) (ty:TypeId):oI (MAz n c) (m0 l ty):=by delta oI;kernel_rfl
theorem iBz (n c:Nat) (ty:TypeId) (x:Nd):oI (MBz n c) (mz l ty x):=by delta oI;kernel_rfl
theorem iAs (n c:Nat) (ty:TypeId) (vs:List Value) (lo:Nat) (hi:Option Nat) (i:Int) (r:Nat):oI (MAs n c i r) (ms l ty vs lo hi):=by delta oI;kernel_rfl
theorem iBs (n c:Nat) (ty:TypeId) (vs:List Value) (lo:Nat) (hi:Option Nat) (i:Int) (r:Nat) (k:Int) (x:Nd):oI (MBs n c i r k) (mx l ty vs lo hi x):=by delta oI;kernel_rfl
theorem iUs (n c:Nat) (ty:TypeId) (vs:List Value) (lo:Nat) (hi:Option Nat) (i:Int) (r:Nat) (R:Nat):oI (MUs n c i r R) (ms l ty vs lo hi):=by delta oI;kernel_rfl
theorem iDz (ty:TypeId):oI (MDz) (m0 l ty):=by delta oI;kernel_rfl
theorem iDs (ty:TypeId) (vs:List Value) (lo:Nat) (hi:Option Nat) (r:Nat):oI (MDs r) (ms l ty vs lo hi):=by delta oI;kernel_rfl
theorem iRz (ty:TypeId):oI (MRz) (m0 l ty):=by delta oI;kernel_rfl
theorem iRs (ty:TypeId) (vs:List Value) (lo:Nat) (hi:Option Nat) (r:Nat):oI (MRs r) (ms l ty vs lo hi):=by delta oI;kernel_rfl
theorem iRd (ty:TypeId) (vs:List Value) (lo:Nat) (hi:Option Nat) (x:Nd):oI (MRd) (mx l ty vs lo hi x):=by delta oI;kernel_rfl
theorem s0 (n c:Nat) (ty:TypeId):oX Γ 300 (cpre 2 body) (aI fn [.o (.a (.sld 0 0 0 n c))]) [⟨false,ty,.prv (lvals l)⟩] [] .normal (M0 n c) (m0 l ty) []:=by delta oX;kernel_rfl
theorem a1 (n c:Nat) (ty:TypeId) (g:Nat→SV):oX Γ 300 A1 (fill g 0 (M0 n c )) (m0 l ty) [] .normal (MAz n c) (m0 l ty) []:=by delta oX;kernel_rfl
theorem otz (n c:Nat) (ty:TypeId) (g:Nat→SV):oX Γ 300 L (fill g 0 (MAz n c )) (m0 l ty) [(11,[.b false])] (.exit 0) (MDz) (m0 l ty) [decide ((0:Int)<n)=false]:=by delta oX;kernel_rfl
theorem ots (n c:Nat) (ty:TypeId) (vs:List Value) (lo:Nat) (hi:Option Nat) (i:Int) (r:Nat) (g:Nat→SV):oX Γ 300 L (fill g 0 (MAs n c i r)) (ms l ty vs lo hi) [(11,[.b false])] (.exit 0) (MDs r) (ms l ty vs lo hi) [decide (i<n)=false]:=by delta oX;kernel_rfl
theorem hdz (n c:Nat) (ty:TypeId) (g:Nat→SV):oX Γ 300 (cpre 2 L) (fill g 0 (MAz n c )) (m0 l ty) [(11,[.b true])] .normal (MAz n c) (m0 l ty) [decide ((0:Int)<n)=true]:=by delta oX;kernel_rfl
theorem hds (n c:Nat) (ty:TypeId) (vs:List Value) (lo:Nat) (hi:Option Nat) (i:Int) (r:Nat) (g:Nat→SV):oX Γ 300 (cpre 2 L) (fill g 0 (MAs n c i r)) (ms l ty vs lo hi) [(11,[.b true])] .normal (MAs n c i r) (ms l ty vs lo hi) [decide (i<n)=true]:=by delta oX;kernel_rfl
theorem lfz (n c:Nat) (ty:TypeId) (z:Lf) (x:Nd) (g:Nat→SV):oX Γ 300 (cpre 3 X) (fill g 0 (MAz n c )) (m0 l ty) [(16,[.ds (cLf.enc z)]),(17,[.s (cNd.enc x)])] .normal (MBz n c) (mz l ty x) [0≤(0:Int),(0:Int)<n,0+offI 0 0 64+64≤(lvals l).length,SV.o (.g (aY (lvals l) (0+offI 0 0 64) 64))=cLf.enc z,LOk z,cNd.enc (leafV z)=cNd.enc x]:=by delta oX;kernel_rfl
theorem lfs (n c:Nat) (ty:TypeId) (vs:List Value) (lo:Nat) (hi:Option Nat) (i:Int) (r:Nat) (z:Lf) (x:Nd) (g:Nat→SV):oX Γ 300 (cpre 3 X) (fill g 0 (MAs n c i r)) (ms l ty vs lo hi) [(16,[.ds (cLf.enc z)]),(17,[.s (cNd.enc x)])] .normal (MBs n c i r r) (mx l ty vs lo hi x) [0≤i,i<n,0+offI 0 i 64+64≤(lvals l).length,SV.o (.g (aY (lvals l) (0+offI 0 i 64) 64))=cLf.enc z,LOk z,cNd.enc (leafV z)=cNd.enc x]:=by delta oX;kernel_rfl
theorem inz (n c:Nat) (ty:TypeId) (x:Nd) (g:Nat→SV):oX Γ 300 LI (fill g 0 (MBz n c )) (mz l ty x) [] (.exit 2) (MBz n c) (mz l ty x) []:=by delta oX;kernel_rfl
theorem in0 (n c:Nat) (ty:TypeId) (vs:List Value) (lo:Nat) (hi:Option Nat) (i:Int) (r:Nat) (k:Int) (x:Nd) (g:Nat→SV):oX Γ 300 LI (fill g 0 (MBs n c i r k)) (mx l ty vs lo hi x) [(21,[.b false])] (.exit 2) (MBs n c i r k) (mx l ty vs lo hi x) [decide (k>0)=false]:=by delta oX;kernel_rfl
theorem inx (n c:Nat) (ty:TypeId) (vs:List Value) (lo:Nat) (hi:Option Nat) (i:Int) (r:Nat) (k:Int) (x:Nd) (k':Int) (y:B32) (g:Nat→SV):oX Γ 300 LI (fill g 0 (MBs n c i r k)) (mx l ty vs lo hi x) [(21,[.b true]),(27,[.n k']),(30,[.ds (cB32.enc y)]),(31,[.s (aK.enc false)])] (.exit 2) (MBs n c i r k) (mx l ty vs lo hi x) [decide (k>0)=true,IntKind.i64.wrap (k-1)=k',0≤k',k'<r,0+(offI 0 k' 65+1)+32≤vs.length,SV.o (.g (aY vs (0+(offI 0 k' 65+1)) 32))=cB32.enc y,BOk x.pre,BOk y,aK.enc (ltV x.pre y)=aK.enc false]:=by delta oX;kernel_rfl
theorem ing (n c:Nat) (ty:TypeId) (vs:List Value) (lo:Nat) (hi:Option Nat) (i:Int) (r:Nat) (k:Int) (x:Nd) (k':Int) (y:B32) (g:Nat→SV):oX Γ 300 LI (fill g 0 (MBs n c i r k)) (mx l ty vs lo hi x) [(21,[.b true]),(27,[.n k']),(30,[.ds (cB32.enc y)]),(31,[.s (aK.enc true)]),(34,[.n k'])] .normal (MBs n c i r k') (mx l ty vs lo hi x) [decide (k>0)=true,IntKind.i64.wrap (k-1)=k',0≤k',k'<r,0+(offI 0 k' 65+1)+32≤vs.length,SV.o (.g (aY vs (0+(offI 0 k' 65+1)) 32))=cB32.enc y,BOk x.pre,BOk y,aK.enc (ltV x.pre y)=aK.enc true,IntKind.i64.wrap (k-1)=k']:=by delta oX;kernel_rfl
theorem ez (n c:Nat) (ty:TypeId) (x:Nd) (g:Nat→SV):oX Γ 300 E (fill g 0 (MBz n c )) (mz l ty x) [] .normal (MBz n c) (mz l ty x) []:=by delta oX;kernel_rfl
theorem e0 (n c:Nat) (ty:TypeId) (vs:List Value) (lo:Nat) (hi:Option Nat) (i:Int) (r:Nat) (k:Int) (x:Nd) (g:Nat→SV):oX Γ 300 E (fill g 0 (MBs n c i r k)) (mx l ty vs lo hi x) [(36,[.b false])] .normal (MBs n c i r k) (mx l ty vs lo hi x) [decide (k>0)=false]:=by delta oX;kernel_rfl
theorem en (n c:Nat) (ty:TypeId) (vs:List Value) (lo:Nat) (hi:Option Nat) (i:Int) (r:Nat) (k:Int) (x:Nd) (k':Int) (y:B32) (g:Nat→SV):oX Γ 300 E (fill g 0 (MBs n c i r k)) (mx l ty vs lo hi x) [(36,[.b true]),(40,[.n k']),(43,[.ds (cB32.enc y)]),(46,[.b false])] .normal (MBs n c i r k) (mx l ty vs lo hi x) [decide (k>0)=true,IntKind.i64.wrap (k-1)=k',0≤k',k'<r,0+(offI 0 k' 65+1)+32≤vs.length,SV.o (.g (aY vs (0+(offI 0 k' 65+1)) 32))=cB32.enc y,eqL y.to x.pre.to=false]:=by delta oX;kernel_rfl
theorem ed (n c:Nat) (ty:TypeId) (vs:List Value) (lo:Nat) (hi:Option Nat) (i:Int) (r:Nat) (k:Int) (x:Nd) (k':Int) (y:B32) (g:Nat→SV):oX Γ 300 E (fill g 0 (MBs n c i r k)) (mx l ty vs lo hi x) [(36,[.b true]),(40,[.n k']),(43,[.ds (cB32.enc y)]),(46,[.b true])] .ret (MRd) (mx l ty vs lo hi x) [decide (k>0)=true,IntKind.i64.wrap (k-1)=k',0≤k',k'<r,0+(offI 0 k' 65+1)+32≤vs.length,SV.o (.g (aY vs (0+(offI 0 k' 65+1)) 32))=cB32.enc y,eqL y.to x.pre.to=true]:=by delta oX;kernel_rfl
theorem apz (n c:Nat) (ty:TypeId) (x:Nd) (g:Nat→SV):oN [0,3,1] Γ 100 R11 (fill g 0 (MBz n c )) (mz l ty x) [(50,[.dyn])] .normal (MBs n c 0 1 0) (mx l ty zn.vals 1 none x) [65=1*65,0+0+1*65≤65,0<1,Room Tryd.prog 33 1]:=by delta oN;kernel_rfl
theorem apg (n c:Nat) (ty:TypeId) (vs:List Value) (i:Int) (r:Nat) (k:Int) (x:Nd) (g:Nat→SV):oX Γ 300 R11 (fill g 0 (MBs n c i r k)) (mx l ty vs (r+1) none x) [(50,[.dyn]),(51,[.dyn])] .normal (MBs n c i (r+1) k) (mx l ty (vs++zn.vals) (r+1) none x) [65=1*65,0+0+1*65≤65,r*65=vs.length,r+1≤r+1,∀v∈zn.vals,v.oneCell'=true]:=by delta oX;kernel_rfl
theorem apr (n c:Nat) (ty:TypeId) (vs:List Value) (lo:Nat) (i:Int) (r:Nat) (k:Int) (x:Nd) (g:Nat→SV):oN [0,4,2] Γ 100 R11 (fill g 0 (MBs n c i r k)) (mx l ty vs lo (some (r+1)) x) [(50,[.dyn]),(51,[.dyn])] .normal (MBs n c i (r+1) k) (mx l ty (vs++zn.vals) (r+1) none x) [65=1*65,0+0+1*65≤65,r*65=vs.length,r+1≤r+1,Room Tryd.prog 33 (r+1)]:=by delta oN;kernel_rfl
theorem tt (n c:Nat) (ty:TypeId) (vs:List Value) (i:Int) (r:Nat) (k k1:Int) (R:Nat) (x:Nd) (g:Nat→SV):oN [0,1] Γ 100 T (fill g 0 (MTs n c i r k R)) (mx l ty vs R (some (R+1)) x) [(54,[.n k1])] .normal (MUs n c i r R) (ms l ty (putV (0+offI 0 k 65) x.vals (putV (0+advS R k1.toNat 0 65) (((vs.drop (0+advS R k.toNat 0 65)).take ((r-k.toNat)*65)).take (Nat.min (r-k.toNat) (r-k1.toNat)*65)) vs)) R (some (R+1))) [IntKind.i64.wrap (k+1)=k1,0≤k1,k1≤r,(r:Int)≤R,0≤k,k≤r,(r:Int)≤R,(0+advS R k.toNat 0 65)+(r-k.toNat)*65≤vs.length,(0+advS R k1.toNat 0 65)+Nat.min (r-k.toNat) (r-k1.toNat)*65≤vs.length,∀v∈((vs.drop (0+advS R k.toNat 0 65)).take ((r-k.toNat)*65)),v.oneCell'=true,0≤k,k<r,0+offI 0 k 65+65≤(putV (0+advS R k1.toNat 0 65) (((vs.drop (0+advS R k.toNat 0 65)).take ((r-k.toNat)*65)).take (Nat.min (r-k.toNat) (r-k1.toNat)*65)) vs).length]:=by delta oN;kernel_rfl
theorem nx (n c:Nat) (ty:TypeId) (vs:List Value) (lo:Nat) (hi:Option Nat) (i:Int) (r:Nat) (i':Int) (g:Nat→SV):oX Γ 300 R14 (fill g 0 (MAs n c i r)) (ms l ty vs lo hi) [(64,[.n i'])] .normal (MAs n c i' r) (ms l ty vs lo hi) [IntKind.i64.wrap (i+1)=i']:=by delta oX;kernel_rfl
theorem fz (ty:TypeId) (g:Nat→SV):oX Γ 300 D (fill g 0 (MDz )) (m0 l ty) [] .ret (MRz) (m0 l ty) []:=by delta oX;kernel_rfl
theorem fs (ty:TypeId) (vs:List Value) (lo:Nat) (hi:Option Nat) (r:Nat) (g:Nat→SV):oX Γ 300 D (fill g 0 (MDs r)) (ms l ty vs lo hi) [] .ret (MRs r) (ms l ty vs lo hi) []:=by delta oX;kernel_rfl
theorem zz (ty:TypeId) (g:Nat→SV):eRes tys (fill g 0 (MRz )) (fun k=>(m0 l ty)[k]?) fn.results.toList=some [.a (.v (.slice none 0 0)),.a (.v (.bool true))]:=by kernel_rfl
theorem zs (ty:TypeId) (vs:List Value) (lo:Nat) (hi:Option Nat) (r:Nat) (g:Nat→SV):eRes tys (fill g 0 (MRs r)) (fun k=>(ms l ty vs lo hi)[k]?) fn.results.toList=some [.a (.slg 1 r),.a (.v (.bool true))]:=by kernel_rfl
theorem zd (ty:TypeId) (vs:List Value) (lo:Nat) (hi:Option Nat) (x:Nd) (g:Nat→SV):eRes tys (fill g 0 (MRd )) (fun k=>(mx l ty vs lo hi x)[k]?) fn.results.toList=some [.a (.v (.slice none 0 0)),.a (.v (.bool false))]:=by kernel_rfl
end
theorem setT (n c:Nat) (i:Int) (r:Nat) (k:Int) (R:Nat) (g:Nat→SV):(fill g 0 (MBs n c i r k)).set 4 (.o (.a (.sld 1 0 0 r R)))=fill g 0 (MTs n c i r k R):=by kernel_rfl
theorem setU (n c:Nat) (i:Int) (r:Nat) (R:Nat) (g:Nat→SV):(fill g 0 (MUs n c i r R)).set 4 (.o (.a (.slg 1 r)))=fill g 0 (MAs n c i r):=by kernel_rfl
end rnd
end Go.Proofs.YtdccehmekkcheaaDoor
