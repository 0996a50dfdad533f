/- Package grow: Stays: facts of the walk. -/
import Derived.Test.YtdccehmekkcheaaDoorBFo
import Derived.Test.YtdccehmekkcheaaDoorBMTE
import Derived.Test.YtdccehmekkcheaaDoorBLTo
import Derived.Test.YtdccehmekkcheaaDoorBDsF
namespace Go.Proofs.YtdccehmekkcheaaDoor
open Go Go.Eng Go.RowKit
set_option linter.unusedVariables false
set_option linter.unusedSimpArgs false
set_option maxRecDepth 100000
namespace gst
noncomputable abbrev fn:=Tryd.f44
noncomputable def body:Code:=bF fn
noncomputable def R1:Code:=cs1 (cs1 (csuf 1 body))
noncomputable def C:Code:=cs2 (cs1 (csuf 1 body))
noncomputable def S2:Code:=csuf 2 body
noncomputable def R3:Code:=cs1 S2
noncomputable def A4:Code:=cs1 (cs1 (cs2 S2))
noncomputable def L:Code:=cL (cB (cs2 (cs1 (cs2 S2))))
noncomputable def Z:Code:=cs2 (cs2 S2)
noncomputable def i1:Nat:=match R1 with | .region i _ _=>i | _=>0
theorem suf_1:csuf 1 body= .seq (.seq (.region i1 (opsOf R1) false) C) S2:=by kernel_rfl
theorem suf_2:S2= .seq R3 (.seq (.seq A4 (.block 0 (.loop L))) Z):=by kernel_rfl
noncomputable def Γ1:Cons Tryd.prog GT:=[tnd.con,tap.con]
noncomputable def ΓP (H:Nd→Nd→B32) (hH:H=hV):Cons Tryd.prog GT:=[tnd.con,tar.cP H hH]
noncomputable def ΓZ (H:Nd→Nd→B32) (hH:H=hV):Cons Tryd.prog GT:=[tnd.con,tar.cZ H hH]
section
variable (A:List Lf) (ty:TypeId) (B:List Lf)
def m0 (ty2:TypeId):List Blk:=[⟨false,ty,.prv (lvals A)⟩,⟨false,ty2,.prv (lvals B)⟩]
def m1 (ty2:TypeId) (us:List Value) (lo:Nat) (hi:Option Nat):List Blk:=[⟨false,ty,.prv (lvals A)⟩,⟨false,ty2,.prv (lvals B)⟩,⟨true,30,.grv 64 us lo hi⟩]
def m2 (m:Nat) (ty2:TypeId) (us:List Value):List Blk:=[⟨false,ty,.prv (lvals A)⟩,⟨false,ty2,.prv (lvals B)⟩,⟨true,24,.grv 32 us m none⟩]
def mr (ty2:TypeId) (us:List Value) (r:Nat):List Blk:=[⟨false,ty,.prv (lvals A)⟩,⟨false,ty2,.prv (lvals B)⟩,⟨true,33,.grv 65 us r none⟩]
end
section
variable (n c:Nat) (m d:Nat)
def M0:List (Option SV):=aD 36 0 [(0,.o (.a (.sld 0 0 0 n c))),(1,.o (.a (.sld 1 0 0 m d)))]
def MP:List (Option SV):=aD 36 0 [(0,.o (.a (.sld 0 0 0 n c))),(1,.o (.a (.sld 1 0 0 m d))),(10,.o (.a (.slg 2 n)))]
def MQ:List (Option SV):=aD 36 0 [(0,.o (.a (.sld 0 0 0 n c))),(1,.o (.a (.sld 1 0 0 m d))),(10,.o (.a (.v (.slice none 0 0))))]
def M1 (b:Bool):List (Option SV):=aD 36 0 [(0,.o (.a (.sld 0 0 0 n c))),(1,.o (.a (.sld 1 0 0 m d))),(15,.o (.a (.v (.bool (!b)))))]
def M3:List (Option SV):=aD 36 0 [(0,.o (.a (.sld 0 0 0 n c))),(1,.o (.a (.sld 1 0 0 m d))),(6,.o (.a (.slg 2 m)))]
def M4 (j:Int):List (Option SV):=aD 36 0 [(0,.o (.a (.sld 0 0 0 n c))),(6,.o (.a (.slg 2 m))),(19,.o (.a (.sld 1 0 0 m d))),(20,.o (.a (int1 .i64 m))),(21,.o (.a (int1 .i64 j)))]
end
def M5 (n c:Nat) (m:Nat):List (Option SV):=aD 36 0 [(0,.o (.a (.sld 0 0 0 n c))),(6,.o (.a (.slg 2 m)))]
def MN (e:Int):List (Option SV):=aD 36 0 [(4,.o (.a (.v (.slice none 0 0)))),(5,.o (.a (int1 .i64 e)))]
def MR (r:Nat):List (Option SV):=aD 36 0 [(4,.o (.a (.slg 2 r))),(5,.o (.a (int1 .i64 0)))]
section
variable (A:List Lf) (n c:Nat) (ty:TypeId) (B:List Lf) (m d:Nat) (ty2:TypeId)
theorem di0:oI (M0 n c m d) (m0 A ty B ty2):=by delta oI;kernel_rfl
theorem diP (us:List Value) (lo:Nat) (hi:Option Nat):oI (MP n c m d) (m1 A ty B ty2 us lo hi):=by delta oI;kernel_rfl
theorem diQ:oI (MQ n c m d) (m0 A ty B ty2):=by delta oI;kernel_rfl
theorem di1 (b:Bool):oI (M1 n c m d b) (m0 A ty B ty2):=by delta oI;kernel_rfl
theorem di3 (us:List Value):oI (M3 n c m d) (m2 A ty B m ty2 us):=by delta oI;kernel_rfl
theorem di4 (us:List Value) (j:Int):oI (M4 n c m d j) (m2 A ty B m ty2 us):=by delta oI;kernel_rfl
end
section
variable (A:List Lf)
theorem di5 (n c:Nat) (ty:TypeId) (B:List Lf) (m:Nat) (ty2:TypeId) (us:List Value):oI (M5 n c m) (m2 A ty B m ty2 us):=by delta oI;kernel_rfl
theorem diN (ty:TypeId) (B:List Lf) (ty2:TypeId) (e:Int):oI (MN e) (m0 A ty B ty2):=by delta oI;kernel_rfl
theorem diR (ty:TypeId) (B:List Lf) (ty2:TypeId) (us:List Value) (r:Nat):oI (MR r) (mr A ty B ty2 us r):=by delta oI;kernel_rfl
theorem s0 (n c:Nat) (ty:TypeId) (B:List Lf) (m d:Nat) (ty2:TypeId):oX Γ1 300 (cpre 1 body) (aG fn [.o (.a (.sld 0 0 0 n c)),.o (.a (.sld 1 0 0 m d))]) (m0 A ty B ty2) [] .normal (M0 n c m d) (m0 A ty B ty2) []:=by delta oX;kernel_rfl
theorem cP (n c:Nat) (ty:TypeId) (B:List Lf) (m d:Nat) (ty2:TypeId) (g:Nat→SV):oU [0,1,2] Γ1 R1 0 2 (fill g 0 (M0 n c m d )) (m0 A ty B ty2) [] (MP n c m d) (m1 A ty B ty2 (((lvals A).drop (0+0)).take (n*64)) n none) [0+0+n*64≤(lvals A).length,0<n,Room Tryd.prog 30 n]:=by delta oU;kernel_rfl
theorem cQ (n c:Nat) (ty:TypeId) (B:List Lf) (m d:Nat) (ty2:TypeId) (g:Nat→SV):oT Γ1 R1 0 2 (fill g 0 (M0 n c m d )) (m0 A ty B ty2) [(10,[.dyn])] (MQ n c m d) (m0 A ty B ty2) [0+0+n*64≤(lvals A).length,n=0]:=by delta oT;kernel_rfl
theorem pg (n c:Nat) (ty:TypeId) (B:List Lf) (m d:Nat) (ty2:TypeId) (us:List Value) (b:Bool) (g:Nat→SV):oU [0,1] Γ1 R1 2 5 (fill g 0 (MP n c m d )) (m1 A ty B ty2 us (n+m) none) [(12,[.dyn]),(14,[.s (ay.enc b)])] (M1 n c m d b) (m0 A ty B ty2) [0+0+m*64≤(lvals B).length,n*64=us.length,n+m≤n+m,∀v∈((lvals B).drop (0+0)).take (m*64),v.oneCell'=true,0+0+(n+m)*64≤(us++((lvals B).drop (0+0)).take (m*64)).length,n+m≤n+m,((us++((lvals B).drop (0+0)).take (m*64)).drop (0+0)).take ((n+m)*64)=lvals (ak (((us++((lvals B).drop (0+0)).take (m*64)).drop (0+0)).take ((n+m)*64))),(ak (((us++((lvals B).drop (0+0)).take (m*64)).drop (0+0)).take ((n+m)*64))).length=n+m,n+m≤4000000,AllL (ak (((us++((lvals B).drop (0+0)).take (m*64)).drop (0+0)).take ((n+m)*64))),0+0+(n+m)*65≤(ah (tndV (ak (((us++((lvals B).drop (0+0)).take (m*64)).drop (0+0)).take ((n+m)*64))))).length,n+m≤n+m,((ah (tndV (ak (((us++((lvals B).drop (0+0)).take (m*64)).drop (0+0)).take ((n+m)*64))))).drop (0+0)).take ((n+m)*65)=ah (au (((ah (tndV (ak (((us++((lvals B).drop (0+0)).take (m*64)).drop (0+0)).take ((n+m)*64))))).drop (0+0)).take ((n+m)*65))),(au (((ah (tndV (ak (((us++((lvals B).drop (0+0)).take (m*64)).drop (0+0)).take ((n+m)*64))))).drop (0+0)).take ((n+m)*65))).length=n+m,n+m<bg,aT (au (((ah (tndV (ak (((us++((lvals B).drop (0+0)).take (m*64)).drop (0+0)).take ((n+m)*64))))).drop (0+0)).take ((n+m)*65))),ay.enc (aL (au (((ah (tndV (ak (((us++((lvals B).drop (0+0)).take (m*64)).drop (0+0)).take ((n+m)*64))))).drop (0+0)).take ((n+m)*65))))=ay.enc b]:=by delta oU;kernel_rfl
theorem pr (n c:Nat) (ty:TypeId) (B:List Lf) (m d:Nat) (ty2:TypeId) (us:List Value) (b:Bool) (lo:Nat) (g:Nat→SV):oU [0,1] Γ1 R1 2 5 (fill g 0 (MP n c m d )) (m1 A ty B ty2 us lo (some (n+m))) [(12,[.dyn]),(14,[.s (ay.enc b)])] (M1 n c m d b) (m0 A ty B ty2) [0+0+m*64≤(lvals B).length,n*64=us.length,n+m≤n+m,Room Tryd.prog 30 (n+m),0+0+(n+m)*64≤(us++((lvals B).drop (0+0)).take (m*64)).length,n+m≤n+m,((us++((lvals B).drop (0+0)).take (m*64)).drop (0+0)).take ((n+m)*64)=lvals (ak (((us++((lvals B).drop (0+0)).take (m*64)).drop (0+0)).take ((n+m)*64))),(ak (((us++((lvals B).drop (0+0)).take (m*64)).drop (0+0)).take ((n+m)*64))).length=n+m,n+m≤4000000,AllL (ak (((us++((lvals B).drop (0+0)).take (m*64)).drop (0+0)).take ((n+m)*64))),0+0+(n+m)*65≤(ah (tndV (ak (((us++((lvals B).drop (0+0)).take (m*64)).drop (0+0)).take ((n+m)*64))))).length,n+m≤n+m,((ah (tndV (ak (((us++((lvals B).drop (0+0)).take (m*64)).drop (0+0)).take ((n+m)*64))))).drop (0+0)).take ((n+m)*65)=ah (au (((ah (tndV (ak (((us++((lvals B).drop (0+0)).take (m*64)).drop (0+0)).take ((n+m)*64))))).drop (0+0)).take ((n+m)*65))),(au (((ah (tndV (ak (((us++((lvals B).drop (0+0)).take (m*64)).drop (0+0)).take ((n+m)*64))))).drop (0+0)).take ((n+m)*65))).length=n+m,n+m<bg,aT (au (((ah (tndV (ak (((us++((lvals B).drop (0+0)).take (m*64)).drop (0+0)).take ((n+m)*64))))).drop (0+0)).take ((n+m)*65))),ay.enc (aL (au (((ah (tndV (ak (((us++((lvals B).drop (0+0)).take (m*64)).drop (0+0)).take ((n+m)*64))))).drop (0+0)).take ((n+m)*65))))=ay.enc b]:=by delta oU;kernel_rfl
theorem qp (n c:Nat) (ty:TypeId) (B:List Lf) (m d:Nat) (ty2:TypeId) (b:Bool) (g:Nat→SV):oU [0,1] Γ1 R1 2 5 (fill g 0 (MQ n c m d )) (m0 A ty B ty2) [(14,[.s (ay.enc b)])] (M1 n c m d b) (m0 A ty B ty2) [0+0+m*64≤(lvals B).length,0<m,Room Tryd.prog 30 m,0+0+(m)*64≤(((lvals B).drop (0+0)).take (m*64)).length,m≤m,((((lvals B).drop (0+0)).take (m*64)).drop (0+0)).take ((m)*64)=lvals (ak (((((lvals B).drop (0+0)).take (m*64)).drop (0+0)).take ((m)*64))),(ak (((((lvals B).drop (0+0)).take (m*64)).drop (0+0)).take ((m)*64))).length=m,m≤4000000,AllL (ak (((((lvals B).drop (0+0)).take (m*64)).drop (0+0)).take ((m)*64))),0+0+(m)*65≤(ah (tndV (ak (((((lvals B).drop (0+0)).take (m*64)).drop (0+0)).take ((m)*64))))).length,m≤m,((ah (tndV (ak (((((lvals B).drop (0+0)).take (m*64)).drop (0+0)).take ((m)*64))))).drop (0+0)).take ((m)*65)=ah (au (((ah (tndV (ak (((((lvals B).drop (0+0)).take (m*64)).drop (0+0)).take ((m)*64))))).drop (0+0)).take ((m)*65))),(au (((ah (tndV (ak (((((lvals B).drop (0+0)).take (m*64)).drop (0+0)).take ((m)*64))))).drop (0+0)).take ((m)*65))).length=m,m<bg,aT (au (((ah (tndV (ak (((((lvals B).drop (0+0)).take (m*64)).drop (0+0)).take ((m)*64))))).drop (0+0)).take ((m)*65))),ay.enc (aL (au (((ah (tndV (ak (((((lvals B).drop (0+0)).take (m*64)).drop (0+0)).take ((m)*64))))).drop (0+0)).take ((m)*65))))=ay.enc b]:=by delta oU;kernel_rfl
theorem qz (n c:Nat) (ty:TypeId) (B:List Lf) (m d:Nat) (ty2:TypeId) (b:Bool) (g:Nat→SV):oU [0,1] Γ1 R1 2 5 (fill g 0 (MQ n c m d )) (m0 A ty B ty2) [(12,[.dyn]),(14,[.s (ay.enc b)])] (M1 n c m d b) (m0 A ty B ty2) [0+0+m*64≤(lvals B).length,m=0,0+0+0*65≤(ah (tndV [])).length,0≤0,((ah (tndV [])).drop (0+0)).take (0*65)=ah (au (((ah (tndV [])).drop (0+0)).take (0*65))),(au (((ah (tndV [])).drop (0+0)).take (0*65))).length=0,0<bg,aT (au (((ah (tndV [])).drop (0+0)).take (0*65))),ay.enc (aL (au (((ah (tndV [])).drop (0+0)).take (0*65))))=ay.enc b]:=by delta oU;kernel_rfl
end
theorem nil1:((opsOf R1).toList.drop 2).drop 5=[]:=by kernel_rfl
section
variable (A:List Lf) (n c:Nat) (ty:TypeId) (B:List Lf) (m d:Nat) (ty2:TypeId)
theorem cE (g:Nat→SV):oX Γ1 300 C (fill g 0 (M1 n c m d false)) (m0 A ty B ty2) [] .ret (MN 1) (m0 A ty B ty2) []:=by delta oX;kernel_rfl
theorem cO (g:Nat→SV):oX Γ1 300 C (fill g 0 (M1 n c m d true)) (m0 A ty B ty2) [] .normal (M0 n c m d) (m0 A ty B ty2) []:=by delta oX;kernel_rfl
theorem mk (g:Nat→SV):oN [0,1,2] Γ1 100 R3 (fill g 0 (M0 n c m d )) (m0 A ty B ty2) [] .normal (M3 n c m d) (m2 A ty B m ty2 (repV (bvals zB) m)) [0≤(m:Int),(m:Int)=m,Room Tryd.prog 24 m]:=by delta oN;kernel_rfl
theorem a4 (us:List Value) (g:Nat→SV):oX Γ1 300 A4 (fill g 0 (M3 n c m d )) (m2 A ty B m ty2 us) [] .normal (M4 n c m d 0) (m2 A ty B m ty2 us) []:=by delta oX;kernel_rfl
theorem stp (us:List Value) (j j':Int) (x:Lf) (g:Nat→SV):oN [0,1,2] Γ1 100 L (fill g 0 (M4 n c m d j)) (m2 A ty B m ty2 us) [(22,[.b true]),(25,[.ds (cLf.enc x)]),(31,[.n j'])] .normal (M4 n c m d j') (m2 A ty B m ty2 (putV (0+offI 0 j 32) (bvals x.lab) us)) [decide (j<m)=true,0≤j,j<m,0+offI 0 j 64+64≤(lvals B).length,SV.o (.g (aI (lvals B) (0+offI 0 j 64) 64))=cLf.enc x,0≤j,j<m,0+offI 0 j 32+32≤us.length,IntKind.i64.wrap (j+1)=j']:=by delta oN;kernel_rfl
theorem out (us:List Value) (j:Int) (g:Nat→SV):oX Γ1 300 L (fill g 0 (M4 n c m d j)) (m2 A ty B m ty2 us) [(22,[.b false])] (.exit 0) (M5 n c m) (m2 A ty B m ty2 us) [decide (j<m)=false]:=by delta oX;kernel_rfl
end
section
variable (H:Nd→Nd→B32) (hH:H=hV) (A:List Lf) (n c:Nat) (ty:TypeId) (B:List Lf) (m:Nat) (ty2:TypeId) (us:List Value) (g:Nat→SV)
theorem fP:oN [0,1,4] (ΓP H hH) 100 Z (fill g 0 (M5 n c m )) (m2 A ty B m ty2 us) [] .ret (MR (aroV H false (au (((ah (tndV (ak (((lvals A).drop (0+0)).take (n*64))))).drop (0+0)).take (n*65))) (aN ((us.drop (0+0)).take (m*32)))).length) (mr A ty B ty2 (ah (aroV H false (au (((ah (tndV (ak (((lvals A).drop (0+0)).take (n*64))))).drop (0+0)).take (n*65))) (aN ((us.drop (0+0)).take (m*32))))) (aroV H false (au (((ah (tndV (ak (((lvals A).drop (0+0)).take (n*64))))).drop (0+0)).take (n*65))) (aN ((us.drop (0+0)).take (m*32)))).length) [0+0+n*64≤(lvals A).length,n≤c,((lvals A).drop (0+0)).take (n*64)=lvals (ak (((lvals A).drop (0+0)).take (n*64))),(ak (((lvals A).drop (0+0)).take (n*64))).length=n,n≤4000000,AllL (ak (((lvals A).drop (0+0)).take (n*64))),0+0+n*65≤(ah (tndV (ak (((lvals A).drop (0+0)).take (n*64))))).length,n≤n,0+0+m*32≤us.length,m≤m,((ah (tndV (ak (((lvals A).drop (0+0)).take (n*64))))).drop (0+0)).take (n*65)=ah (au (((ah (tndV (ak (((lvals A).drop (0+0)).take (n*64))))).drop (0+0)).take (n*65))),(au (((ah (tndV (ak (((lvals A).drop (0+0)).take (n*64))))).drop (0+0)).take (n*65))).length=n,n<4000001,aT (au (((ah (tndV (ak (((lvals A).drop (0+0)).take (n*64))))).drop (0+0)).take (n*65))),aL (au (((ah (tndV (ak (((lvals A).drop (0+0)).take (n*64))))).drop (0+0)).take (n*65)))=true,(us.drop (0+0)).take (m*32)=aR (aN ((us.drop (0+0)).take (m*32))),(aN ((us.drop (0+0)).take (m*32))).length=m,m≤4000000,AllB (aN ((us.drop (0+0)).take (m*32))),(aroV H false (au (((ah (tndV (ak (((lvals A).drop (0+0)).take (n*64))))).drop (0+0)).take (n*65))) (aN ((us.drop (0+0)).take (m*32))))≠[]]:=by delta oN;kernel_rfl
theorem fZ:oN [0,1] (ΓZ H hH) 100 Z (fill g 0 (M5 n c m )) (m2 A ty B m ty2 us) [] .ret (MN 0) (m0 A ty B ty2) [0+0+n*64≤(lvals A).length,n≤c,((lvals A).drop (0+0)).take (n*64)=lvals (ak (((lvals A).drop (0+0)).take (n*64))),(ak (((lvals A).drop (0+0)).take (n*64))).length=n,n≤4000000,AllL (ak (((lvals A).drop (0+0)).take (n*64))),0+0+n*65≤(ah (tndV (ak (((lvals A).drop (0+0)).take (n*64))))).length,n≤n,0+0+m*32≤us.length,m≤m,((ah (tndV (ak (((lvals A).drop (0+0)).take (n*64))))).drop (0+0)).take (n*65)=ah (au (((ah (tndV (ak (((lvals A).drop (0+0)).take (n*64))))).drop (0+0)).take (n*65))),(au (((ah (tndV (ak (((lvals A).drop (0+0)).take (n*64))))).drop (0+0)).take (n*65))).length=n,n<4000001,aT (au (((ah (tndV (ak (((lvals A).drop (0+0)).take (n*64))))).drop (0+0)).take (n*65))),aL (au (((ah (tndV (ak (((lvals A).drop (0+0)).take (n*64))))).drop (0+0)).take (n*65)))=true,(us.drop (0+0)).take (m*32)=aR (aN ((us.drop (0+0)).take (m*32))),(aN ((us.drop (0+0)).take (m*32))).length=m,m≤4000000,AllB (aN ((us.drop (0+0)).take (m*32))),(aroV H false (au (((ah (tndV (ak (((lvals A).drop (0+0)).take (n*64))))).drop (0+0)).take (n*65))) (aN ((us.drop (0+0)).take (m*32))))=[]]:=by delta oN;kernel_rfl
end
theorem zn (A:List Lf) (ty:TypeId) (B:List Lf) (ty2:TypeId) (e:Int) (g:Nat→SV):eRes tys (fill g 0 (MN e)) (fun k=>(m0 A ty B ty2 )[k]?) fn.results.toList=some [.a (.v (.slice none 0 0)),.a (int1 .i64 e)]:=by kernel_rfl
theorem zr (A:List Lf) (ty:TypeId) (B:List Lf) (ty2:TypeId) (us:List Value) (r:Nat) (g:Nat→SV):eRes tys (fill g 0 (MR r)) (fun k=>(mr A ty B ty2 us r)[k]?) fn.results.toList=some [.a (.slg 2 r),.a (int1 .i64 0)]:=by kernel_rfl
end gst
end Go.Proofs.YtdccehmekkcheaaDoor
namespace Go.Proofs.YtdccehmekkcheaaDoor
open Go Go.Eng Go.RowKit
set_option linter.unusedVariables false
set_option linter.unusedSimpArgs false
set_option maxRecDepth 100000
def labs (B:List Lf):List B32:=B.map Lf.lab
noncomputable def stT (H:Nd→Nd→B32) (A B:List Lf):List Nd:=aroV H false (tndV A) (labs B)
theorem put_rep {α:Type} {f:α→List Value} {s:Nat} (hf:∀x,(f x).length=s) {d:List Value} (hd:d.length=s) (P:List α) {i n:Nat} (hP:P.length=i) (h:i<n) (x:α):
  putV (i*s) (f x) (P.flatMap f++repV d (n-i))=(P++[x]).flatMap f++repV d (n-(i+1)):=by
 have hl:(P.flatMap f).length=i*s:=by rw[flat_len hf P,hP]
 unfold putV
 rw[List.take_append_of_le_length (by omega),List.take_of_length_le (by omega),List.drop_append,hl,List.drop_eq_nil_of_le (by omega),List.nil_append,hf,show i*s+s-i*s=s by omega]
 rw[show n-i=(n-(i+1))+1 by omega,repV,List.drop_append,hd,Nat.sub_self,List.drop_zero,List.drop_eq_nil_of_le (by omega),List.nil_append,List.flatMap_append,List.append_assoc]
 simp
theorem AllL.app {A B:List Lf} (hA:AllL A) (hB:AllL B):AllL (A++B):=fun z hz=>(List.mem_append.1 hz).elim (hA z) (hB z)
theorem labs_ok {B:List Lf} (h:AllL B):AllB (labs B):=fun x hx=>by
 obtain⟨z,hz,rfl⟩:=List.mem_map.1 hx
 exact(h z hz).1
theorem labs_len (B:List Lf):(labs B).length=B.length:=List.length_map _
theorem labs_take {B:List Lf} {i:Nat} (h:i<B.length):labs (B.take (i+1))=labs (B.take i)++[(B.getD i zl).lab]:=by
 unfold labs
 rw[List.take_succ_eq_append_getElem h,List.map_append,getD_lt h]
 rfl
theorem ne_left {A B:List Lf} (h:((A++B).map leafV).Pairwise NeP):(A.map leafV).Pairwise NeP:=by
 rw[List.map_append] at h
 exact h.sublist (List.sublist_append_left _ _)
theorem ap_left {A B:List Lf} (hA:AllL A) (hB:AllL B) (ha:aL (tndV (A++B))=true):rndD A A.length=false∧aL (tndV A)=true:=by
 have:=ne_dup (ne_left (apart_ne (hA.app hB) ha)) A.length (Nat.le_refl _)
 exact⟨this,tnd_apart hA this⟩
theorem oneLs (l:List Lf):∀v∈lvals l,v.oneCell'=true:=fun v hv=>by
 obtain⟨x,_,hx⟩:=List.mem_flatMap.1 hv
 unfold Lf.vals at hx
 obtain⟨i,_,rfl⟩:=List.mem_map.1 hx
 rfl
namespace gst
noncomputable def Qs (b:Bool) (R:List Nd) (r:SV) (mm:List Blk):Prop:=
 (b=false∧aZ (.t [.a (.v (.slice none 0 0)),.a (int1 .i64 1)]) .none r mm)∨(b=true∧R=[]∧aZ (.t [.a (.v (.slice none 0 0)),.a (int1 .i64 0)]) .none r mm)∨(b=true∧R≠[]∧aZ (.t [.a (.slg 0 R.length),.a (int1 .i64 0)]) (.new 33 (.grv 65 (ah R) R.length none)) r mm)
theorem reg (H:Nd→Nd→B32) (hH:H=hV) (A:List Lf) (n c:Nat) (ty:TypeId) (B:List Lf) (m d:Nat) (ty2:TypeId) (hn:A.length=n) (hm:B.length=m) (hb:n+m≤4000000) (hc:n≤c) (hd:m≤d) (hA:AllL A) (hB:AllL B) {Post:Ex→List SV→List Blk→Prop} (hp:∀g,Post .normal (fill g 0 (M1 n c m d (aL (tndV (A++B))))) (m0 A ty B ty2)) (g:Nat→SV):
  aB Tryd.prog GT 2 (.region gst.i1 (opsOf R1) false) (fill g 0 (M0 n c m d)) (m0 A ty B ty2) Post:=by
 have hYA:((lvals A).drop (0+0)).take (n*64)=lvals A:=dtl hn
 have hYB:((lvals B).drop (0+0)).take (m*64)=lvals B:=dtl hm
 have la:(lvals A).length=n*64:=by rw[←hn];exact bE A
 have lb:(lvals B).length=m*64:=by rw[←hm];exact bE B
 have hab:=hA.app hB
 have lt:(tndV (A++B)).length=n+m:=by rw[tnd_len,List.length_append,hn,hm]
 have lz:(ah (tndV (A++B))).length=(n+m)*65:=by rw[bn,lt]
 have dT:((ah (tndV (A++B))).drop (0+0)).take ((n+m)*65)=ah (tndV (A++B)):=dtn lt
 have hk:=tnd_ok hab
 refine Runs.region ?_
 rcases Nat.eq_zero_or_pos n with h0 | h0
 ·subst h0
  obtain rfl:=List.eq_nil_of_length_eq_zero hn
  refine aO.av aj 2 (cQ [] 0 c ty B m d ty2 g) ⟨by omega,rfl,trivial⟩ (diQ [] 0 c ty B m d ty2) rfl fun g=> ?_
  rcases Nat.eq_zero_or_pos m with h1 | h1
  ·subst h1
   obtain rfl:=List.eq_nil_of_length_eq_zero hm
   refine aO.aK aj 5 [0,1] (qz [] 0 c ty [] 0 d ty2 (aL (tndV [])) g) ?_ (di1 [] 0 c ty [] 0 d ty2 _) rfl fun g=> ?_
   ·rw[show((ah (tndV [])).drop (0+0)).take (0*65)=ah (tndV []) from dtn (by rw[tnd_nil];rfl),aU]
    exact⟨by omega,rfl,by omega,Nat.le_refl _,rfl,by rw[tnd_nil];rfl,by unfold bg;omega,tnd_ok (fun z hz=>by cases hz),rfl,trivial⟩
   ·rw[nil1]
    exact aO.nil (hp g)
  ·rw[List.nil_append] at hk lt lz dT
   rw[Nat.zero_add] at lt lz dT
   refine aO.aK aj 5 [0,1] (qp [] 0 c ty B m d ty2 (aL (tndV B)) g) ?_ (di1 [] 0 c ty B m d ty2 _) rfl fun g=> ?_
   ·rw[hYB,hYB,aY,dT,aU]
    exact⟨by omega,h1,roomLf _ (by omega),by omega,Nat.le_refl _,rfl,hm,by omega,hB,by omega,Nat.le_refl _,rfl,lt,by unfold bg;omega,hk,rfl,trivial⟩
   ·rw[nil1]
    exact aO.nil (hp g)
 ·refine aO.aK aj 2 [0,1,2] (cP A n c ty B m d ty2 g) ⟨by omega,h0,roomLf n (by omega),trivial⟩ (diP A n c ty B m d ty2 _ _ _) rfl fun g=> ?_
  rw[hYA]
  have hAB:((lvals A++lvals B).drop (0+0)).take ((n+m)*64)=lvals (A++B):=by rw[←lvals_app];exact dtl (by rw[List.length_append,hn,hm])
  have lAB:(lvals A++lvals B).length=(n+m)*64:=by rw[List.length_append,la,lb,Nat.add_mul]
  have lab:(A++B).length=n+m:=by rw[List.length_append,hn,hm]
  refine aO.roomV 2 (n+m) (own:=true) (ty:=30) (s:=64) (vs:=lvals A) (lo:=n) rfl ?_ ?_
  ·refine aO.aK aj 5 [0,1] (pg A n c ty B m d ty2 (lvals A) (aL (tndV (A++B))) g) ?_ (di1 A n c ty B m d ty2 _) rfl fun g=> ?_
   ·rw[hYB,hAB,aY,dT,aU]
    exact⟨by omega,by omega,Nat.le_refl _,oneLs B,by omega,Nat.le_refl _,rfl,lab,hb,hab,by omega,Nat.le_refl _,rfl,lt,by unfold bg;omega,hk,rfl,trivial⟩
   ·rw[nil1]
    exact aO.nil (hp g)
  ·refine aO.aK aj 5 [0,1] (pr A n c ty B m d ty2 (lvals A) (aL (tndV (A++B))) n g) ?_ (di1 A n c ty B m d ty2 _) rfl fun g=> ?_
   ·rw[hYB,hAB,aY,dT,aU]
    exact⟨by omega,by omega,Nat.le_refl _,roomLf _ hb,by omega,Nat.le_refl _,rfl,lab,hb,hab,by omega,Nat.le_refl _,rfl,lt,by unfold bg;omega,hk,rfl,trivial⟩
   ·rw[nil1]
    exact aO.nil (hp g)
theorem run (H:Nd→Nd→B32) (hH:H=hV) (A:List Lf) (n c:Nat) (ty:TypeId) (B:List Lf) (m d:Nat) (ty2:TypeId) (hn:A.length=n) (hm:B.length=m) (hb:n+m≤4000000) (hc:n≤c) (hd:m≤d) (hA:AllL A) (hB:AllL B):aB Tryd.prog GT 2 body (aG fn [.o (.a (.sld 0 0 0 n c)),.o (.a (.sld 1 0 0 m d))]) [⟨false,ty,.prv (lvals A)⟩,⟨false,ty2,.prv (lvals B)⟩] (aF tys fn (fun r mm=>Qs (aL (tndV (A++B))) (stT H A B) r mm)):=by
 refine Runs.bq aj mixed 1 (s0 A n c ty B m d ty2) trivial (di0 A n c ty B m d ty2) rfl fun g=> ?_
 rw[suf_1]
 refine Runs.seq (Runs.seq (reg H hH A n c ty B m d ty2 hn hm hb hc hd hA hB (fun g=> ?_) g))
 show aB _ _ _ _ _ _ _
 have hap:=fun h=>(ap_left (A:=A) (B:=B) hA hB h).2
 cases hb2:aL (tndV (A++B)) with
 | false=>exact Runs.av aj mixed (cE A n c ty B m d ty2 g) trivial (diN A ty B ty2 _) rfl fun g=>aF.ret (zn A ty B ty2 _ g) (.inl ⟨rfl,rfl⟩)
 | true=>
  have hap:=hap hb2
  have hYA:((lvals A).drop (0+0)).take (n*64)=lvals A:=dtl hn
  have la:(lvals A).length=n*64:=by rw[←hn];exact bE A
  have lb:(lvals B).length=m*64:=by rw[←hm];exact bE B
  refine Runs.av aj mixed (cO A n c ty B m d ty2 g) trivial (di0 A n c ty B m d ty2) rfl fun g=> ?_
  show aB _ _ _ _ _ _ _
  rw[suf_2]
  refine Runs.seq (Runs.aK aj mixed [0,1,2] (mk A n c ty B m d ty2 g) ⟨by omega,rfl,roomL m (by omega),trivial⟩ (di3 A n c ty B m d ty2 _) rfl fun g=> ?_)
  refine Runs.seq (Runs.seq (Runs.av aj mixed (a4 A n c ty B m d ty2 _ g) trivial (di4 A n c ty B m d ty2 _ _) rfl fun g=> ?_))
  refine Runs.block ?_
  have h00:repV (bvals zB) m=aR (labs (B.take 0))++repV (bvals zB) (m-0):=rfl
  rw[h00]
  refine Runs.loopX (fun(i:Nat)=>M4 n c m d (i:Int)) (fun i=>m2 A ty B m ty2 (aR (labs (B.take i))++repV (bvals zB) (m-i))) (fun i=>i≤m) (fun i=>m-i) ?_ 0 (Nat.zero_le _) g
  rintro i g hi
  rcases Nat.lt_or_ge i m with h | h
  ·have o64:=offs i 64
   have o32:=offs i 32
   have hb6:i*64+64≤m*64:=by have:=Nat.mul_le_mul_right 64 (show i+1≤m by omega);omega
   have hb5:i*32+32≤m*32:=by have:=Nat.mul_le_mul_right 32 (show i+1≤m by omega);omega
   have hl:(labs (B.take i)).length=i:=by rw[labs_len,List.length_take];omega
   refine Runs.aK aj mixed [0,1,2] (stp A n c ty B m d ty2 _ i ((i+1:Nat):Int) (B.getD i zl) g) ⟨decide_eq_true (by omega),by omega,by omega,by rw[o64,lb];omega,by rw[o64];exact ld_lf B (by omega),by omega,by omega,?_,by rw[IntKind.wrap_i64];omega,trivial⟩ (di4 A n c ty B m d ty2 _ _) rfl fun g=> ?_
   ·rw[o32,List.length_append,wvals_len,hl,repV_length,bvals_len,Nat.sub_mul]
    omega
   ·refine⟨i+1,g,rfl,?_,by omega,by omega⟩
    rw[o32,put_rep bvals_len (bvals_len zB) _ hl h,labs_take (by omega)]
  ·obtain rfl:i=m:=by omega
   have ht:B.take i=B:=List.take_of_length_le (by omega)
   have e:aR (labs (B.take i))++repV (bvals zB) (i-i)=aR (labs B):=by rw[Nat.sub_self,repV,List.append_nil,ht]
   rw[e]
   refine Runs.av aj mixed (out A n c ty B i d ty2 _ _ g) ⟨decide_eq_false (by omega),trivial⟩ (di5 A n c ty B i ty2 _) rfl fun g=> ?_
   show aB _ _ _ _ _ _ _
   have lt:(tndV A).length=n:=by rw[tnd_len,hn]
   have dT:((ah (tndV A)).drop (0+0)).take (n*65)=ah (tndV A):=dtn lt
   have lz:(ah (tndV A)).length=n*65:=by rw[bn,lt]
   have ll:(labs B).length=i:=by rw[labs_len,hm]
   have lw:(aR (labs B)).length=i*32:=by rw[wvals_len,ll]
   have dW:((aR (labs B)).drop (0+0)).take (i*32)=aR (labs B):=dtb ll
   by_cases hR:stT H A B=[]
   ·refine Runs.aK aj mixed [0,1] (fZ H hH A n c ty B i ty2 _ g) ?_ (diN A ty B ty2 _) rfl fun g=>aF.ret (zn A ty B ty2 _ g) (.inr (.inl ⟨rfl,hR,rfl⟩))
    rw[hYA,aY,dT,dW,aU,bvDec_vals]
    exact⟨by omega,hc,rfl,hn,by omega,hA,by omega,Nat.le_refl _,by omega,Nat.le_refl _,rfl,lt,by omega,tnd_ok hA,hap,rfl,ll,by omega,labs_ok hB,hR,trivial⟩
   ·have q:=fP H hH A n c ty B i ty2 (aR (labs B)) g
    rw[hYA,aY,dT,dW,aU,bvDec_vals] at q
    refine Runs.aK aj mixed [0,1,4] q ?_ (diR A ty B ty2 _ _) rfl fun g=>aF.ret (zr A ty B ty2 _ _ g) (.inr (.inr ⟨rfl,hR,2,rfl,rfl⟩))
    exact⟨by omega,hc,rfl,hn,by omega,hA,by omega,Nat.le_refl _,by omega,Nat.le_refl _,rfl,lt,by omega,tnd_ok hA,hap,rfl,ll,by omega,labs_ok hB,hR,trivial⟩
noncomputable def specZ (H:Nd→Nd→B32):List PArg→Option (SV × LEff × Cst)
 | [.winv _ vs n ty,.winv _ ws m ty2]=>some (.t [.a (.v (.slice none 0 0)),.a (int1 .i64 0)],.none,[vs=lvals (ak vs),(ak vs).length=n,ws=lvals (ak ws),(ak ws).length=m,n+m≤4000000,AllL (ak vs),AllL (ak ws),aL (tndV (ak vs++ak ws))=true,stT H (ak vs) (ak ws)=[]])
 | _=>none
noncomputable def conZ (H:Nd→Nd→B32) (hH:H=hV):Con Tryd.prog GT:=Con.parts aj 44 fn Tryd.func44 (by kernel_rfl) (c:=body) (by kernel_rfl) [.winv 64,.winv 64] (specZ H)
 (fun ps r e p h hp=>by
  unfold specZ at h
  split at h<;>cases h
  exact⟨rfl,fun b hb=>by simp only[aM,PArg.blk,List.append_nil,List.nil_append,List.cons_append,List.mem_cons,List.not_mem_nil,or_false] at hb;rcases hb with rfl | rfl<;>rfl⟩)
 (fun ps r e p cap h hp hi=>by
  unfold specZ at h
  split at h<;>cases h
  rename_i s1 vs n ty s2 ws m ty2
  obtain⟨p1,p2,p3,p4,p5,p6,p7,p8,p9,_⟩:=hp
  obtain⟨⟨_,hc1⟩,⟨_,hc2⟩,_⟩:=hi
  have q:=run H hH (ak vs) n (cap 0) ty (ak ws) m (cap 1) ty2 p2 p4 p5 hc1 hc2 p6 p7
  rw[←p1,←p3] at q
  refine Runs.mono q fun e t m=>endsM_mono fun r m h=> ?_
  rcases h with⟨h',_⟩ | ⟨_,_,h⟩ | ⟨_,h',_⟩
  ·rw[p8] at h';cases h'
  ·exact h
  ·exact absurd p9 h')
noncomputable def specP (H:Nd→Nd→B32):List PArg→Option (SV × LEff × Cst)
 | [.winv _ vs n ty,.winv _ ws m ty2]=>some (.t [.a (.slg 0 (stT H (ak vs) (ak ws)).length),.a (int1 .i64 0)],.new 33 (.grv 65 (ah (stT H (ak vs) (ak ws))) (stT H (ak vs) (ak ws)).length none),[vs=lvals (ak vs),(ak vs).length=n,ws=lvals (ak ws),(ak ws).length=m,n+m≤4000000,AllL (ak vs),AllL (ak ws),aL (tndV (ak vs++ak ws))=true,stT H (ak vs) (ak ws)≠[]])
 | _=>none
noncomputable def conP (H:Nd→Nd→B32) (hH:H=hV):Con Tryd.prog GT:=Con.parts aj 44 fn Tryd.func44 (by kernel_rfl) (c:=body) (by kernel_rfl) [.winv 64,.winv 64] (specP H)
 (fun ps r e p h hp=>by
  unfold specP at h
  split at h<;>cases h
  exact⟨rfl,fun b hb=>by simp only[aM,PArg.blk,List.append_nil,List.nil_append,List.cons_append,List.mem_cons,List.not_mem_nil,or_false] at hb;rcases hb with rfl | rfl<;>rfl⟩)
 (fun ps r e p cap h hp hi=>by
  unfold specP at h
  split at h<;>cases h
  rename_i s1 vs n ty s2 ws m ty2
  obtain⟨p1,p2,p3,p4,p5,p6,p7,p8,p9,_⟩:=hp
  obtain⟨⟨_,hc1⟩,⟨_,hc2⟩,_⟩:=hi
  have q:=run H hH (ak vs) n (cap 0) ty (ak ws) m (cap 1) ty2 p2 p4 p5 hc1 hc2 p6 p7
  rw[←p1,←p3] at q
  refine Runs.mono q fun e t m=>endsM_mono fun r m h=> ?_
  rcases h with⟨h',_⟩ | ⟨_,h',_⟩ | ⟨_,_,h⟩
  ·rw[p8] at h';cases h'
  ·exact absurd h' p9
  ·exact h)
end gst
end Go.Proofs.YtdccehmekkcheaaDoor
namespace Go.Proofs.YtdccehmekkcheaaDoor
open Go Go.Eng Go.RowKit
set_option linter.unusedVariables false
set_option linter.unusedSimpArgs false
set_option maxRecDepth 100000
def chkV (x y:B32 × Int) (s t:B32):Int:=bif x.2==0&&y.2==0 then (bif eqL x.1.to s.to&&eqL y.1.to t.to then 0 else 3) else 1
noncomputable def chkT (H:Nd→Nd→B32) (E:B32) (S:Nd→B32) (s t:B32) (V:List Nd) (B:List Lf):Int:=chkV (rootV H E S V) (rootV H E S (sortL (V++tndV B))) s t
theorem root_01 (H:Nd→Nd→B32) (E:B32) (S:Nd→B32) (l:List Nd):(rootV H E S l).2=0∨(rootV H E S l).2=1:=by
 unfold rootV
 cases aL l with
 | true=>left;rw[cond_true];cases Nat.beq l.length 0<;>rfl
 | false=>right;rfl
theorem aT.app {A B:List Nd} (hA:aT A) (hB:aT B):aT (A++B):=fun z hz=>(List.mem_append.1 hz).elim (hA z) (hB z)
theorem aT.nil:aT []:=fun z hz=>by cases hz
namespace gck
noncomputable abbrev fn:=Tryd.f46
noncomputable def body:Code:=bF fn
noncomputable def R1:Code:=cs1 (csuf 1 body)
noncomputable def S2:Code:=csuf 2 body
noncomputable def T:Code:=csuf 3 S2
noncomputable def i1:Nat:=match R1 with | .region i _ _=>i | _=>0
theorem suf_1:csuf 1 body= .seq (.region i1 (opsOf R1) false) S2:=by kernel_rfl
theorem nil0:(opsOf R1).toList.drop 6=[]:=by kernel_rfl
noncomputable def Γ1:Cons Tryd.prog GT:=[tnd.con]
noncomputable def Γ2 (H:Nd→Nd→B32) (hH:H=hV) (E:B32) (hE':E=hE) (S:Nd→B32) (hS':S=hS):Cons Tryd.prog GT:=[sort_con,trt.con H hH E hE' S hS' ]
namespace nn
def m0 (s t:B32):List Blk:=[⟨true,24,.lit (cB32.row s)⟩,⟨true,24,.lit (cB32.row t)⟩]
def mf (s t:B32) (x y:B32):List Blk:=[⟨true,24,.lit (cB32.row s)⟩,⟨true,24,.lit (cB32.row t)⟩,⟨true,24,.lit (cB32.row x)⟩,⟨true,24,.lit (cB32.row y)⟩]
def M0 (a:Option Addr) (b:Option Addr):List (Option SV):=aD 47 0 [(2,.o (.a (.v (.slice a 0 0)))),(3,.o (.a (.v (.slice b 0 0)))),(4,.o (.a (.ptr 0 0))),(5,.o (.a (.ptr 1 0)))]
theorem i0 (s t:B32) (a:Option Addr) (b:Option Addr):oI (M0 a b) (m0 s t):=by delta oI;kernel_rfl
def Mz (a:Option Addr):List (Option SV):=aD 47 0 [(2,.o (.a (.v (.slice a 0 0)))),(4,.o (.a (.ptr 0 0))),(5,.o (.a (.ptr 1 0))),(9,.o (.a (.v (.slice none 0 0))))]
theorem iz (s t:B32) (a:Option Addr):oI (Mz a) (m0 s t):=by delta oI;kernel_rfl
def M5 (a:Option Addr) (e f:Int):List (Option SV):=aD 47 0 [(4,.o (.a (.ptr 0 0))),(5,.o (.a (.ptr 1 0))),(10,.o (.a (.ptr 2 0))),(11,.o (.a (int1 .i64 e))),(12,.o (.a (.ptr 3 0))),(13,.o (.a (int1 .i64 f)))]
theorem i5 (s t:B32) (a:Option Addr) (e f:Int) (x y:B32):oI (M5 a e f) (mf s t x y):=by delta oI;kernel_rfl
def MR (a:Option Addr) (e:Int):List (Option SV):=aD 47 0 [(8,.o (.a (int1 .i64 e)))]
def mo:List Blk:=[]
theorem iR (a:Option Addr) (e:Int):oI (MR a e) (mo):=by delta oI;kernel_rfl
theorem s0 (s t:B32) (a:Option Addr) (b:Option Addr):oX Γ1 300 (cpre 1 body) (aG fn [cB32.enc s,cB32.enc t,.o (.a (.v (.slice a 0 0))),.o (.a (.v (.slice b 0 0)))]) [] [] .normal (M0 a b) (m0 s t) []:=by delta oX;kernel_rfl
theorem z (H:Nd→Nd→B32) (hH:H=hV) (E:B32) (hE':E=hE) (S:Nd→B32) (hS':S=hS) (s t:B32) (a:Option Addr) (b:Option Addr) (g:Nat→SV):oU [0,1] Γ1 R1 0 6 (fill g 0 (M0 a b )) (m0 s t) [(15,[.dyn]),(18,[.dyn])] (Mz a) (m0 s t) [0=0,0+0+0*65≤(ah (tndV [])).length,0=0]:=by delta oU;kernel_rfl
theorem bz (H:Nd→Nd→B32) (hH:H=hV) (E:B32) (hE':E=hE) (S:Nd→B32) (hS':S=hS) (s t:B32) (a:Option Addr) (x:B32) (e:Int) (y:B32) (f:Int) (g:Nat→SV):oN [0,1,2,3] (Γ2 H hH E hE' S hS') 100 (cpre 3 S2) (fill g 0 (Mz a )) (m0 s t) [(23,[.s (hsS (x,e))]),(28,[.s (hsS (y,f))])] .normal (M5 a e f) (mf s t x y) [hsS (E,0)=hsS (x,e),hsS (E,0)=hsS (y,f)]:=by delta oN;kernel_rfl
section
variable (s t:B32) (a:Option Addr)
theorem t1 (x y:B32) (f:Int) (g:Nat→SV):oX Γ1 300 T (fill g 0 (M5 a 1 f)) (mf s t x y) [] .ret (MR a 1) (mo) []:=by delta oX;kernel_rfl
theorem t2 (x y:B32) (g:Nat→SV):oX Γ1 300 T (fill g 0 (M5 a 0 1)) (mf s t x y) [] .ret (MR a 1) (mo) []:=by delta oX;kernel_rfl
theorem t3 (b:Option Addr) (x y:B32) (g:Nat→SV):oX Γ1 300 T (fill g 0 (M5 a 0 0)) (mf s t x y) [(41,[.b true])] .ret (MR a 3) (mo) [(!eqL x.to s.to)=true]:=by delta oX;kernel_rfl
theorem t4 (b:Option Addr) (x y:B32) (g:Nat→SV):oX Γ1 300 T (fill g 0 (M5 a 0 0)) (mf s t x y) [(41,[.b false]),(45,[.b true])] .ret (MR a 3) (mo) [(!eqL x.to s.to)=false,(!eqL y.to t.to)=true]:=by delta oX;kernel_rfl
theorem t5 (b:Option Addr) (x y:B32) (g:Nat→SV):oX Γ1 300 T (fill g 0 (M5 a 0 0)) (mf s t x y) [(41,[.b false]),(45,[.b false])] .ret (MR a 0) (mo) [(!eqL x.to s.to)=false,(!eqL y.to t.to)=false]:=by delta oX;kernel_rfl
end
theorem zr (a:Option Addr) (e:Int) (mm:Nat→Option Blk) (g:Nat→SV):eRes tys (fill g 0 (MR a e)) mm fn.results.toList=some [.a (int1 .i64 e)]:=by kernel_rfl
theorem tail (H:Nd→Nd→B32) (hH:H=hV) (E:B32) (hE':E=hE) (S:Nd→B32) (hS':S=hS) (s t:B32) (a:Option Addr) (b:Option Addr) (x y:B32 × Int) (hx:x.2=0∨x.2=1) (hy:y.2=0∨y.2=1) (g:Nat→SV):aB Tryd.prog GT 0 T (fill g 0 (M5 a x.2 y.2)) (mf s t x.1 y.1) (aF tys fn (aZ (.o (.a (int1 .i64 (chkV x y s t)))) .none)):=by
 obtain⟨x,e⟩:=x
 obtain⟨y,f⟩:=y
 rcases hx with rfl | rfl
 ·rcases hy with rfl | rfl
  ·cases h1:eqL x.to s.to with
   | false=>
    refine Runs.av aj mixed (t3 s t a b x y g) ⟨by rw[h1];rfl,trivial⟩ (iR a _) rfl fun g=>aF.ret (zr a _ _ g) ?_
    unfold chkV;rw[h1];rfl
   | true=>
    cases h2:eqL y.to t.to with
    | false=>
     refine Runs.av aj mixed (t4 s t a b x y g) ⟨by rw[h1];rfl,by rw[h2];rfl,trivial⟩ (iR a _) rfl fun g=>aF.ret (zr a _ _ g) ?_
     unfold chkV;rw[h1,h2];rfl
    | true=>
     refine Runs.av aj mixed (t5 s t a b x y g) ⟨by rw[h1];rfl,by rw[h2];rfl,trivial⟩ (iR a _) rfl fun g=>aF.ret (zr a _ _ g) ?_
     unfold chkV;rw[h1,h2];rfl
  ·exact Runs.av aj mixed (t2 s t a x y g) trivial (iR a _) rfl fun g=>aF.ret (zr a _ _ g) rfl
 ·exact Runs.av aj mixed (t1 s t a x y f g) trivial (iR a _) rfl fun g=>aF.ret (zr a _ _ g) rfl
theorem backz (H:Nd→Nd→B32) (hH:H=hV) (E:B32) (hE':E=hE) (S:Nd→B32) (hS':S=hS) (s t:B32) (a:Option Addr) (b:Option Addr) (g:Nat→SV):aB Tryd.prog GT 0 S2 (fill g 0 (Mz a)) (m0 s t) (aF tys fn (aZ (.o (.a (int1 .i64 (chkV (rootV H E S []) (E,0) s t)))) .none)):=by
 have q:=bz H hH E hE' S hS' s t a (rootV H E S []).1 (rootV H E S []).2 E 0 g
 refine Runs.of_outNP aj mixed 3 [0,1,2,3] q ⟨rfl,rfl,trivial⟩ (i5 s t a _ _ _ _) (by kernel_rfl) fun g=> ?_
 exact tail H hH E hE' S hS' s t a b (rootV H E S []) (E,0) (root_01 H E S _) (.inl rfl) g
theorem run (H:Nd→Nd→B32) (hH:H=hV) (E:B32) (hE':E=hE) (S:Nd→B32) (hS':S=hS) (s t:B32) (a:Option Addr) (b:Option Addr):aB Tryd.prog GT 0 body (aG fn [cB32.enc s,cB32.enc t,.o (.a (.v (.slice a 0 0))),.o (.a (.v (.slice b 0 0)))]) [] (aF tys fn (aZ (.o (.a (int1 .i64 (chkT H E S s t [] [])))) .none)):=by
 refine Runs.bq aj mixed 1 (s0 s t a b) trivial (i0 s t a b) rfl fun g=> ?_
 rw[suf_1]
 refine Runs.seq (Runs.region ?_)
 unfold chkT
 refine aO.aK aj 6 [0,1] (z H hH E hE' S hS' s t a b g) ⟨rfl,by omega,rfl,trivial⟩ (iz s t a) rfl fun g=> ?_
 rw[nil0,tnd_nil,List.append_nil,show sortL []=[] from List.eq_nil_of_length_eq_zero (sortL_len []),show rootV H E S []=(E,0) from rfl]
 exact aO.nil (backz H hH E hE' S hS' s t a b g)
end nn
noncomputable def spec0 (H:Nd→Nd→B32) (E:B32) (S:Nd→B32):List PArg→Option (SV × LEff × Cst)
 | [.val u,.val v,.val (.o (.a (.v (.slice a 0 0)))),.val (.o (.a (.v (.slice b 0 0))))]=>match cB32.dec u,cB32.dec v with
  | some s,some t=>some (.o (.a (int1 .i64 (chkT H E S s t [] []))),.none,[])
  | _,_=>none
 | _=>none
noncomputable def con0 (H:Nd→Nd→B32) (hH:H=hV) (E:B32) (hE':E=hE) (S:Nd→B32) (hS':S=hS):Con Tryd.prog GT:=Con.parts aj 46 fn Tryd.func46 (by kernel_rfl) (c:=body) (by kernel_rfl) [.val,.val,.winv 65,.winv 64] (spec0 H E S)
 (fun ps r e p h hp=>by
  unfold spec0 at h
  split at h
  ·split at h<;>cases h
   exact⟨rfl,fun b hb=>by simp[aM,PArg.blk] at hb⟩
  ·cases h)
 (fun ps r e p cap h hp hi=>by
  unfold spec0 at h
  split at h
  ·rename_i u v a b
   split at h<;>cases h
   rename_i s t k1 k2
   have e1:=cB32.ok _ _ k1
   have e2:=cB32.ok _ _ k2
   subst e1 e2
   exact nn.run H hH E hE' S hS' s t a b
  ·cases h)
end gck
end Go.Proofs.YtdccehmekkcheaaDoor
namespace Go.Proofs.YtdccehmekkcheaaDoor
open Go Go.Eng Go.RowKit
set_option linter.unusedVariables false
set_option linter.unusedSimpArgs false
set_option maxRecDepth 100000
noncomputable def stR (H:Nd→Nd→B32) (A B:List Lf):List Nd:=witV H false (rndA A A.length) (labs B)
theorem dup_ne {l:List Lf} (h:AllL l) (hd:rndD l l.length=false):(l.map leafV).Pairwise NeP:=by
 have hp:=rnd_perm l l.length (Nat.le_refl _)
 rw[leaves_all] at hp
 exact ne_perm hp ((rnd_pair h _ (Nat.le_refl _) hd).imp fun h=>h.ne)
theorem dup_left {A B:List Lf} (hA:AllL A) (hB:AllL B) (hd:rndD (A++B) (A++B).length=false):rndD A A.length=false:=
 ne_dup (ne_left (dup_ne (hA.app hB) hd)) _ (Nat.le_refl _)
theorem leaf_holds {z:Lf} (hz:LOk z) {x:B32} (hx:BOk x):holdsV (leafV z) x=true↔z.lab=x:=by
 rw[holds_iff (leaf_good hz)]
 constructor
 ·intro h
  have h:256≤comV z.lab x:=h
  exact eq_of_com hz.1 hx (Nat.le_antisymm (com_le _ _) h)
 ·rintro rfl
  show 256≤comV z.lab z.lab
  rw[com_self]
  exact Nat.le_refl _
theorem cross {A B:List Lf} (h:((A++B).map leafV).Pairwise NeP) {z y:Lf} (hz:z∈A) (hy:y∈B):z.lab≠y.lab:=by
 rw[List.map_append,List.pairwise_append] at h
 exact h.2.2 _ (List.mem_map_of_mem hz) _ (List.mem_map_of_mem hy)
theorem not_held {A B:List Lf} (hA:AllL A) (hB:AllL B) (h:((A++B).map leafV).Pairwise NeP) {z:Lf} (hz:z∈A):∀x∈labs B,holdsV (leafV z) x=false:=fun x hx=>by
 obtain⟨y,hy,rfl⟩:=List.mem_map.1 hx
 rw[←Bool.not_eq_true,leaf_holds (hA z hz) (hB y hy).1]
 exact cross h hz hy
theorem st_ne {H:Nd→Nd→B32} (hH:∀a b,BOk (H a b)) {A B:List Lf} (hA:AllL A) (hB:AllL B) (h0:0<A.length) (hd:rndD (A++B) (A++B).length=false):stR H A B≠[]:=fun e=>by
 have hne:=dup_ne (hA.app hB) hd
 have hdA:=dup_left hA hB hd
 have hAp:=rnd_ap hA hdA
 have hl:=rndA_len A A.length
 have hr:rndA A A.length≠[]:=by rw[←List.length_pos_iff,hl];exact h0
 have W:=witV_spec H hH false hAp hr (labs B)
 obtain⟨n,hn⟩:=List.exists_mem_of_ne_nil _ hr
 obtain⟨z,hz,rfl⟩:=mem_rnd hn
 unfold stR at e
 rcases W.all _ hn with⟨p,hp,_⟩ | ⟨_,x,hx,hh⟩
 ·rw[e] at hp;cases hp
 ·rw[not_held hA hB hne hz x hx] at hh;cases hh
end Go.Proofs.YtdccehmekkcheaaDoor
