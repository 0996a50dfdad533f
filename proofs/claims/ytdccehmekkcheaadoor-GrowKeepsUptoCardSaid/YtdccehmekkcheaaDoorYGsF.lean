/- Package grow: Stays: facts of the walk. -/
import Derived.Test.YtdccehmekkcheaaDoorYFo
import Derived.Test.YtdccehmekkcheaaDoorYMTE
import Derived.Test.YtdccehmekkcheaaDoorYLTo
namespace Go.Proofs.YtdccehmekkcheaaDoor
open Go Go.Eng Go.RowKit
set_option linter.unusedVariables false
set_option linter.unusedSimpArgs false
set_option maxRecDepth 100000
namespace gst
noncomputable abbrev fn:=Tryd.f44
noncomputable def body:Code:=bG fn
noncomputable def R1:Code:=cs1 (cs1 (csuf 1 body))
noncomputable def C:Code:=cs2 (cs1 (csuf 1 body))
noncomputable def S2:Code:=csuf 2 body
noncomputable def R3:Code:=cs1 S2
noncomputable def A4:Code:=cs1 (cs1 (cs2 S2))
noncomputable def L:Code:=cL (cB (cs2 (cs1 (cs2 S2))))
noncomputable def Z:Code:=cs2 (cs2 S2)
noncomputable def i1:Nat:=match R1 with | .region i _ _=>i | _=>0
theorem suf_1:csuf 1 body= .seq (.seq (.region i1 (opsOf R1) false) C) S2:=by kernel_rfl
theorem suf_2:S2= .seq R3 (.seq (.seq A4 (.block 0 (.loop L))) Z):=by kernel_rfl
noncomputable def Γ1:Cons Tryd.prog GT:=[tnd.con,tap.con]
noncomputable def ΓP (H:Nd→Nd→B32) (hH:H=hV):Cons Tryd.prog GT:=[tnd.con,tar.cP H hH]
noncomputable def ΓZ (H:Nd→Nd→B32) (hH:H=hV):Cons Tryd.prog GT:=[tnd.con,tar.cZ H hH]
section
variable (A:List Lf) (ty:TypeId) (B:List Lf)
def m0 (ty2:TypeId):List Blk:=[⟨false,ty,.prv (lvals A)⟩,⟨false,ty2,.prv (lvals B)⟩]
def m1 (ty2:TypeId) (us:List Value) (lo:Nat) (hi:Option Nat):List Blk:=[⟨false,ty,.prv (lvals A)⟩,⟨false,ty2,.prv (lvals B)⟩,⟨true,30,.grv 64 us lo hi⟩]
def m2 (m:Nat) (ty2:TypeId) (us:List Value):List Blk:=[⟨false,ty,.prv (lvals A)⟩,⟨false,ty2,.prv (lvals B)⟩,⟨true,24,.grv 32 us m none⟩]
def mr (ty2:TypeId) (us:List Value) (r:Nat):List Blk:=[⟨false,ty,.prv (lvals A)⟩,⟨false,ty2,.prv (lvals B)⟩,⟨true,33,.grv 65 us r none⟩]
end
section
variable (n c:Nat) (m d:Nat)
def M0:List (Option SV):=aB 36 0 [(0,.o (.a (.sld 0 0 0 n c))),(1,.o (.a (.sld 1 0 0 m d)))]
def MP:List (Option SV):=aB 36 0 [(0,.o (.a (.sld 0 0 0 n c))),(1,.o (.a (.sld 1 0 0 m d))),(10,.o (.a (.slg 2 n)))]
def MQ:List (Option SV):=aB 36 0 [(0,.o (.a (.sld 0 0 0 n c))),(1,.o (.a (.sld 1 0 0 m d))),(10,.o (.a (.v (.slice none 0 0))))]
def M1 (b:Bool):List (Option SV):=aB 36 0 [(0,.o (.a (.sld 0 0 0 n c))),(1,.o (.a (.sld 1 0 0 m d))),(15,.o (.a (.v (.bool (!b)))))]
def M3:List (Option SV):=aB 36 0 [(0,.o (.a (.sld 0 0 0 n c))),(1,.o (.a (.sld 1 0 0 m d))),(6,.o (.a (.slg 2 m)))]
def M4 (j:Int):List (Option SV):=aB 36 0 [(0,.o (.a (.sld 0 0 0 n c))),(6,.o (.a (.slg 2 m))),(19,.o (.a (.sld 1 0 0 m d))),(20,.o (.a (int1 .i64 m))),(21,.o (.a (int1 .i64 j)))]
end
def M5 (n c:Nat) (m:Nat):List (Option SV):=aB 36 0 [(0,.o (.a (.sld 0 0 0 n c))),(6,.o (.a (.slg 2 m)))]
def MN (e:Int):List (Option SV):=aB 36 0 [(4,.o (.a (.v (.slice none 0 0)))),(5,.o (.a (int1 .i64 e)))]
def MR (r:Nat):List (Option SV):=aB 36 0 [(4,.o (.a (.slg 2 r))),(5,.o (.a (int1 .i64 0)))]
section
variable (A:List Lf) (n c:Nat) (ty:TypeId) (B:List Lf) (m d:Nat) (ty2:TypeId)
theorem di0:oI (M0 n c m d) (m0 A ty B ty2):=by delta oI;kernel_rfl
theorem diP (us:List Value) (lo:Nat) (hi:Option Nat):oI (MP n c m d) (m1 A ty B ty2 us lo hi):=by delta oI;kernel_rfl
theorem diQ:oI (MQ n c m d) (m0 A ty B ty2):=by delta oI;kernel_rfl
theorem di1 (b:Bool):oI (M1 n c m d b) (m0 A ty B ty2):=by delta oI;kernel_rfl
theorem di3 (us:List Value):oI (M3 n c m d) (m2 A ty B m ty2 us):=by delta oI;kernel_rfl
theorem di4 (us:List Value) (j:Int):oI (M4 n c m d j) (m2 A ty B m ty2 us):=by delta oI;kernel_rfl
end
section
variable (A:List Lf)
theorem di5 (n c:Nat) (ty:TypeId) (B:List Lf) (m:Nat) (ty2:TypeId) (us:List Value):oI (M5 n c m) (m2 A ty B m ty2 us):=by delta oI;kernel_rfl
theorem diN (ty:TypeId) (B:List Lf) (ty2:TypeId) (e:Int):oI (MN e) (m0 A ty B ty2):=by delta oI;kernel_rfl
theorem diR (ty:TypeId) (B:List Lf) (ty2:TypeId) (us:List Value) (r:Nat):oI (MR r) (mr A ty B ty2 us r):=by delta oI;kernel_rfl
theorem s0 (n c:Nat) (ty:TypeId) (B:List Lf) (m d:Nat) (ty2:TypeId):oX Γ1 300 (cpre 1 body) (aI fn [.o (.a (.sld 0 0 0 n c)),.o (.a (.sld 1 0 0 m d))]) (m0 A ty B ty2) [] .normal (M0 n c m d) (m0 A ty B ty2) []:=by delta oX;kernel_rfl
theorem cP (n c:Nat) (ty:TypeId) (B:List Lf) (m d:Nat) (ty2:TypeId) (g:Nat→SV):oU [0,1,2] Γ1 R1 0 2 (fill g 0 (M0 n c m d )) (m0 A ty B ty2) [] (MP n c m d) (m1 A ty B ty2 (((lvals A).drop (0+0)).take (n*64)) n none) [0+0+n*64≤(lvals A).length,0<n,Room Tryd.prog 30 n]:=by delta oU;kernel_rfl
theorem cQ (n c:Nat) (ty:TypeId) (B:List Lf) (m d:Nat) (ty2:TypeId) (g:Nat→SV):oT Γ1 R1 0 2 (fill g 0 (M0 n c m d )) (m0 A ty B ty2) [(10,[.dyn])] (MQ n c m d) (m0 A ty B ty2) [0+0+n*64≤(lvals A).length,n=0]:=by delta oT;kernel_rfl
theorem pg (n c:Nat) (ty:TypeId) (B:List Lf) (m d:Nat) (ty2:TypeId) (us:List Value) (b:Bool) (g:Nat→SV):oU [0,1] Γ1 R1 2 5 (fill g 0 (MP n c m d )) (m1 A ty B ty2 us (n+m) none) [(12,[.dyn]),(14,[.s (aK.enc b)])] (M1 n c m d b) (m0 A ty B ty2) [0+0+m*64≤(lvals B).length,n*64=us.length,n+m≤n+m,∀v∈((lvals B).drop (0+0)).take (m*64),v.oneCell'=true,0+0+(n+m)*64≤(us++((lvals B).drop (0+0)).take (m*64)).length,n+m≤n+m,((us++((lvals B).drop (0+0)).take (m*64)).drop (0+0)).take ((n+m)*64)=lvals (ak (((us++((lvals B).drop (0+0)).take (m*64)).drop (0+0)).take ((n+m)*64))),(ak (((us++((lvals B).drop (0+0)).take (m*64)).drop (0+0)).take ((n+m)*64))).length=n+m,n+m≤4000000,AllL (ak (((us++((lvals B).drop (0+0)).take (m*64)).drop (0+0)).take ((n+m)*64))),0+0+(n+m)*65≤(ah (tndV (ak (((us++((lvals B).drop (0+0)).take (m*64)).drop (0+0)).take ((n+m)*64))))).length,n+m≤n+m,((ah (tndV (ak (((us++((lvals B).drop (0+0)).take (m*64)).drop (0+0)).take ((n+m)*64))))).drop (0+0)).take ((n+m)*65)=ah (au (((ah (tndV (ak (((us++((lvals B).drop (0+0)).take (m*64)).drop (0+0)).take ((n+m)*64))))).drop (0+0)).take ((n+m)*65))),(au (((ah (tndV (ak (((us++((lvals B).drop (0+0)).take (m*64)).drop (0+0)).take ((n+m)*64))))).drop (0+0)).take ((n+m)*65))).length=n+m,n+m<bg,aN (au (((ah (tndV (ak (((us++((lvals B).drop (0+0)).take (m*64)).drop (0+0)).take ((n+m)*64))))).drop (0+0)).take ((n+m)*65))),aK.enc (aM (au (((ah (tndV (ak (((us++((lvals B).drop (0+0)).take (m*64)).drop (0+0)).take ((n+m)*64))))).drop (0+0)).take ((n+m)*65))))=aK.enc b]:=by delta oU;kernel_rfl
theorem pr (n c:Nat) (ty:TypeId) (B:List Lf) (m d:Nat) (ty2:TypeId) (us:List Value) (b:Bool) (lo:Nat) (g:Nat→SV):oU [0,1] Γ1 R1 2 5 (fill g 0 (MP n c m d )) (m1 A ty B ty2 us lo (some (n+m))) [(12,[.dyn]),(14,[.s (aK.enc b)])] (M1 n c m d b) (m0 A ty B ty2) [0+0+m*64≤(lvals B).length,n*64=us.length,n+m≤n+m,Room Tryd.prog 30 (n+m),0+0+(n+m)*64≤(us++((lvals B).drop (0+0)).take (m*64)).length,n+m≤n+m,((us++((lvals B).drop (0+0)).take (m*64)).drop (0+0)).take ((n+m)*64)=lvals (ak (((us++((lvals B).drop (0+0)).take (m*64)).drop (0+0)).take ((n+m)*64))),(ak (((us++((lvals B).drop (0+0)).take (m*64)).drop (0+0)).take ((n+m)*64))).length=n+m,n+m≤4000000,AllL (ak (((us++((lvals B).drop (0+0)).take (m*64)).drop (0+0)).take ((n+m)*64))),0+0+(n+m)*65≤(ah (tndV (ak (((us++((lvals B).drop (0+0)).take (m*64)).drop (0+0)).take ((n+m)*64))))).length,n+m≤n+m,((ah (tndV (ak (((us++((lvals B).drop (0+0)).take (m*64)).drop (0+0)).take ((n+m)*64))))).drop (0+0)).take ((n+m)*65)=ah (au (((ah (tndV (ak (((us++((lvals B).drop (0+0)).take (m*64)).drop (0+0)).take ((n+m)*64))))).drop (0+0)).take ((n+m)*65))),(au (((ah (tndV (ak (((us++((lvals B).drop (0+0)).take (m*64)).drop (0+0)).take ((n+m)*64))))).drop (0+0)).take ((n+m)*65))).length=n+m,n+m<bg,aN (au (((ah (tndV (ak (((us++((lvals B).drop (0+0)).take (m*64)).drop (0+0)).take ((n+m)*64))))).drop (0+0)).take ((n+m)*65))),aK.enc (aM (au (((ah (tndV (ak (((us++((lvals B).drop (0+0)).take (m*64)).drop (0+0)).take ((n+m)*64))))).drop (0+0)).take ((n+m)*65))))=aK.enc b]:=by delta oU;kernel_rfl
theorem qp (n c:Nat) (ty:TypeId) (B:List Lf) (m d:Nat) (ty2:TypeId) (b:Bool) (g:Nat→SV):oU [0,1] Γ1 R1 2 5 (fill g 0 (MQ n c m d )) (m0 A ty B ty2) [(14,[.s (aK.enc b)])] (M1 n c m d b) (m0 A ty B ty2) [0+0+m*64≤(lvals B).length,0<m,Room Tryd.prog 30 m,0+0+(m)*64≤(((lvals B).drop (0+0)).take (m*64)).length,m≤m,((((lvals B).drop (0+0)).take (m*64)).drop (0+0)).take ((m)*64)=lvals (ak (((((lvals B).drop (0+0)).take (m*64)).drop (0+0)).take ((m)*64))),(ak (((((lvals B).drop (0+0)).take (m*64)).drop (0+0)).take ((m)*64))).length=m,m≤4000000,AllL (ak (((((lvals B).drop (0+0)).take (m*64)).drop (0+0)).take ((m)*64))),0+0+(m)*65≤(ah (tndV (ak (((((lvals B).drop (0+0)).take (m*64)).drop (0+0)).take ((m)*64))))).length,m≤m,((ah (tndV (ak (((((lvals B).drop (0+0)).take (m*64)).drop (0+0)).take ((m)*64))))).drop (0+0)).take ((m)*65)=ah (au (((ah (tndV (ak (((((lvals B).drop (0+0)).take (m*64)).drop (0+0)).take ((m)*64))))).drop (0+0)).take ((m)*65))),(au (((ah (tndV (ak (((((lvals B).drop (0+0)).take (m*64)).drop (0+0)).take ((m)*64))))).drop (0+0)).take ((m)*65))).length=m,m<bg,aN (au (((ah (tndV (ak (((((lvals B).drop (0+0)).take (m*64)).drop (0+0)).take ((m)*64))))).drop (0+0)).take ((m)*65))),aK.enc (aM (au (((ah (tndV (ak (((((lvals B).drop (0+0)).take (m*64)).drop (0+0)).take ((m)*64))))).drop (0+0)).take ((m)*65))))=aK.enc b]:=by delta oU;kernel_rfl
theorem qz (n c:Nat) (ty:TypeId) (B:List Lf) (m d:Nat) (ty2:TypeId) (b:Bool) (g:Nat→SV):oU [0,1] Γ1 R1 2 5 (fill g 0 (MQ n c m d )) (m0 A ty B ty2) [(12,[.dyn]),(14,[.s (aK.enc b)])] (M1 n c m d b) (m0 A ty B ty2) [0+0+m*64≤(lvals B).length,m=0,0+0+0*65≤(ah (tndV [])).length,0≤0,((ah (tndV [])).drop (0+0)).take (0*65)=ah (au (((ah (tndV [])).drop (0+0)).take (0*65))),(au (((ah (tndV [])).drop (0+0)).take (0*65))).length=0,0<bg,aN (au (((ah (tndV [])).drop (0+0)).take (0*65))),aK.enc (aM (au (((ah (tndV [])).drop (0+0)).take (0*65))))=aK.enc b]:=by delta oU;kernel_rfl
end
theorem nil1:((opsOf R1).toList.drop 2).drop 5=[]:=by kernel_rfl
section
variable (A:List Lf) (n c:Nat) (ty:TypeId) (B:List Lf) (m d:Nat) (ty2:TypeId)
theorem cE (g:Nat→SV):oX Γ1 300 C (fill g 0 (M1 n c m d false)) (m0 A ty B ty2) [] .ret (MN 1) (m0 A ty B ty2) []:=by delta oX;kernel_rfl
theorem cO (g:Nat→SV):oX Γ1 300 C (fill g 0 (M1 n c m d true)) (m0 A ty B ty2) [] .normal (M0 n c m d) (m0 A ty B ty2) []:=by delta oX;kernel_rfl
theorem mk (g:Nat→SV):oN [0,1,2] Γ1 100 R3 (fill g 0 (M0 n c m d )) (m0 A ty B ty2) [] .normal (M3 n c m d) (m2 A ty B m ty2 (repV (bF zB) m)) [0≤(m:Int),(m:Int)=m,Room Tryd.prog 24 m]:=by delta oN;kernel_rfl
theorem a4 (us:List Value) (g:Nat→SV):oX Γ1 300 A4 (fill g 0 (M3 n c m d )) (m2 A ty B m ty2 us) [] .normal (M4 n c m d 0) (m2 A ty B m ty2 us) []:=by delta oX;kernel_rfl
theorem stp (us:List Value) (j j':Int) (x:Lf) (g:Nat→SV):oN [0,1,2] Γ1 100 L (fill g 0 (M4 n c m d j)) (m2 A ty B m ty2 us) [(22,[.b true]),(25,[.ds (cLf.enc x)]),(31,[.n j'])] .normal (M4 n c m d j') (m2 A ty B m ty2 (putV (0+offI 0 j 32) (bF x.lab) us)) [decide (j<m)=true,0≤j,j<m,0+offI 0 j 64+64≤(lvals B).length,SV.o (.g (aY (lvals B) (0+offI 0 j 64) 64))=cLf.enc x,0≤j,j<m,0+offI 0 j 32+32≤us.length,IntKind.i64.wrap (j+1)=j']:=by delta oN;kernel_rfl
theorem out (us:List Value) (j:Int) (g:Nat→SV):oX Γ1 300 L (fill g 0 (M4 n c m d j)) (m2 A ty B m ty2 us) [(22,[.b false])] (.exit 0) (M5 n c m) (m2 A ty B m ty2 us) [decide (j<m)=false]:=by delta oX;kernel_rfl
end
section
variable (H:Nd→Nd→B32) (hH:H=hV) (A:List Lf) (n c:Nat) (ty:TypeId) (B:List Lf) (m:Nat) (ty2:TypeId) (us:List Value) (g:Nat→SV)
theorem fP:oN [0,1,4] (ΓP H hH) 100 Z (fill g 0 (M5 n c m )) (m2 A ty B m ty2 us) [] .ret (MR (aroV H false (au (((ah (tndV (ak (((lvals A).drop (0+0)).take (n*64))))).drop (0+0)).take (n*65))) (aG ((us.drop (0+0)).take (m*32)))).length) (mr A ty B ty2 (ah (aroV H false (au (((ah (tndV (ak (((lvals A).drop (0+0)).take (n*64))))).drop (0+0)).take (n*65))) (aG ((us.drop (0+0)).take (m*32))))) (aroV H false (au (((ah (tndV (ak (((lvals A).drop (0+0)).take (n*64))))).drop (0+0)).take (n*65))) (aG ((us.drop (0+0)).take (m*32)))).length) [0+0+n*64≤(lvals A).length,n≤c,((lvals A).drop (0+0)).take (n*64)=lvals (ak (((lvals A).drop (0+0)).take (n*64))),(ak (((lvals A).drop (0+0)).take (n*64))).length=n,n≤4000000,AllL (ak (((lvals A).drop (0+0)).take (n*64))),0+0+n*65≤(ah (tndV (ak (((lvals A).drop (0+0)).take (n*64))))).length,n≤n,0+0+m*32≤us.length,m≤m,((ah (tndV (ak (((lvals A).drop (0+0)).take (n*64))))).drop (0+0)).take (n*65)=ah (au (((ah (tndV (ak (((lvals A).drop (0+0)).take (n*64))))).drop (0+0)).take (n*65))),(au (((ah (tndV (ak (((lvals A).drop (0+0)).take (n*64))))).drop (0+0)).take (n*65))).length=n,n<4000001,aN (au (((ah (tndV (ak (((lvals A).drop (0+0)).take (n*64))))).drop (0+0)).take (n*65))),aM (au (((ah (tndV (ak (((lvals A).drop (0+0)).take (n*64))))).drop (0+0)).take (n*65)))=true,(us.drop (0+0)).take (m*32)=aD (aG ((us.drop (0+0)).take (m*32))),(aG ((us.drop (0+0)).take (m*32))).length=m,m≤4000000,AllB (aG ((us.drop (0+0)).take (m*32))),(aroV H false (au (((ah (tndV (ak (((lvals A).drop (0+0)).take (n*64))))).drop (0+0)).take (n*65))) (aG ((us.drop (0+0)).take (m*32))))≠[]]:=by delta oN;kernel_rfl
theorem fZ:oN [0,1] (ΓZ H hH) 100 Z (fill g 0 (M5 n c m )) (m2 A ty B m ty2 us) [] .ret (MN 0) (m0 A ty B ty2) [0+0+n*64≤(lvals A).length,n≤c,((lvals A).drop (0+0)).take (n*64)=lvals (ak (((lvals A).drop (0+0)).take (n*64))),(ak (((lvals A).drop (0+0)).take (n*64))).length=n,n≤4000000,AllL (ak (((lvals A).drop (0+0)).take (n*64))),0+0+n*65≤(ah (tndV (ak (((lvals A).drop (0+0)).take (n*64))))).length,n≤n,0+0+m*32≤us.length,m≤m,((ah (tndV (ak (((lvals A).drop (0+0)).take (n*64))))).drop (0+0)).take (n*65)=ah (au (((ah (tndV (ak (((lvals A).drop (0+0)).take (n*64))))).drop (0+0)).take (n*65))),(au (((ah (tndV (ak (((lvals A).drop (0+0)).take (n*64))))).drop (0+0)).take (n*65))).length=n,n<4000001,aN (au (((ah (tndV (ak (((lvals A).drop (0+0)).take (n*64))))).drop (0+0)).take (n*65))),aM (au (((ah (tndV (ak (((lvals A).drop (0+0)).take (n*64))))).drop (0+0)).take (n*65)))=true,(us.drop (0+0)).take (m*32)=aD (aG ((us.drop (0+0)).take (m*32))),(aG ((us.drop (0+0)).take (m*32))).length=m,m≤4000000,AllB (aG ((us.drop (0+0)).take (m*32))),(aroV H false (au (((ah (tndV (ak (((lvals A).drop (0+0)).take (n*64))))).drop (0+0)).take (n*65))) (aG ((us.drop (0+0)).take (m*32))))=[]]:=by delta oN;kernel_rfl
end
theorem zn (A:List Lf) (ty:TypeId) (B:List Lf) (ty2:TypeId) (e:Int) (g:Nat→SV):eRes tys (fill g 0 (MN e)) (fun k=>(m0 A ty B ty2 )[k]?) fn.results.toList=some [.a (.v (.slice none 0 0)),.a (int1 .i64 e)]:=by kernel_rfl
theorem zr (A:List Lf) (ty:TypeId) (B:List Lf) (ty2:TypeId) (us:List Value) (r:Nat) (g:Nat→SV):eRes tys (fill g 0 (MR r)) (fun k=>(mr A ty B ty2 us r)[k]?) fn.results.toList=some [.a (.slg 2 r),.a (int1 .i64 0)]:=by kernel_rfl
end gst
end Go.Proofs.YtdccehmekkcheaaDoor
