/- Package grow: Stays: facts of the walk. -/
import Derived.Test.YtdccehmekkcheaaDoorCFo
import Derived.Test.YtdccehmekkcheaaDoorCMTE
import Derived.Test.YtdccehmekkcheaaDoorCLTo
import Derived.Test.YtdccehmekkcheaaDoorCDsF
set_option linter.unusedSimpArgs false
set_option linter.unusedVariables false
namespace Go.Proofs.YtdccehmekkcheaaDoor
open Go Go.Eng Go.RowKit
set_option maxRecDepth 100000
namespace gst
noncomputable abbrev fn:=Tryd.f44
noncomputable def body:Code:=d9 fn
noncomputable def R1:Code:=cs1 (cs1 (bM 1 body))
noncomputable def C:Code:=cs2 (cs1 (bM 1 body))
noncomputable def S2:Code:=bM 2 body
noncomputable def R3:Code:=cs1 S2
noncomputable def A4:Code:=cs1 (cs1 (cs2 S2))
noncomputable def L:Code:=cL (cB (cs2 (cs1 (cs2 S2))))
noncomputable def Z:Code:=cs2 (cs2 S2)
noncomputable def i1:Nat:=match R1 with | .region i _ _=>i | _=>0
theorem suf_1:bM 1 body= .seq (.seq (.region i1 (opsOf R1) false) C) S2:=by kernel_rfl
theorem suf_2:S2= .seq R3 (.seq (.seq A4 (.block 0 (.loop L))) Z):=by kernel_rfl
noncomputable def Γ1:Cons Tryd.prog GT:=[tnd.con,tap.con]
noncomputable def ΓP (H:Nd→Nd→B32) (hH:H=hV):Cons Tryd.prog GT:=[tnd.con,tar.cP H hH]
noncomputable def ΓZ (H:Nd→Nd→B32) (hH:H=hV):Cons Tryd.prog GT:=[tnd.con,tar.cZ H hH]
section
variable (A:List Lf) (ty:TypeId) (B:List Lf)
def m0 (ty2:TypeId):List Blk:=[⟨false,ty,.prv (lvals A)⟩,⟨false,ty2,.prv (lvals B)⟩]
def m1 (ty2:TypeId) (us:List Value) (lo:Nat) (hi:Option Nat):List Blk:=[⟨false,ty,.prv (lvals A)⟩,⟨false,ty2,.prv (lvals B)⟩,⟨true,30,.grv 64 us lo hi⟩]
def m2 (m:Nat) (ty2:TypeId) (us:List Value):List Blk:=[⟨false,ty,.prv (lvals A)⟩,⟨false,ty2,.prv (lvals B)⟩,⟨true,24,.grv 32 us m none⟩]
def mr (ty2:TypeId) (us:List Value) (r:Nat):List Blk:=[⟨false,ty,.prv (lvals A)⟩,⟨false,ty2,.prv (lvals B)⟩,⟨true,33,.grv 65 us r none⟩]
end
section
variable (n c:Nat) (m d:Nat)
def M0:List (Option SV):=aD 36 0 [(0,.o (.a (.sld 0 0 0 n c))),(1,.o (.a (.sld 1 0 0 m d)))]
def MP:List (Option SV):=aD 36 0 [(0,.o (.a (.sld 0 0 0 n c))),(1,.o (.a (.sld 1 0 0 m d))),(10,.o (.a (.slg 2 n)))]
def MQ:List (Option SV):=aD 36 0 [(0,.o (.a (.sld 0 0 0 n c))),(1,.o (.a (.sld 1 0 0 m d))),(10,.o (.a (.v (.slice none 0 0))))]
def M1 (b:Bool):List (Option SV):=aD 36 0 [(0,.o (.a (.sld 0 0 0 n c))),(1,.o (.a (.sld 1 0 0 m d))),(15,.o (.a (.v (.bool (!b)))))]
def M3:List (Option SV):=aD 36 0 [(0,.o (.a (.sld 0 0 0 n c))),(1,.o (.a (.sld 1 0 0 m d))),(6,.o (.a (.slg 2 m)))]
def M4 (j:Int):List (Option SV):=aD 36 0 [(0,.o (.a (.sld 0 0 0 n c))),(6,.o (.a (.slg 2 m))),(19,.o (.a (.sld 1 0 0 m d))),(20,.o (.a (aG .i64 m))),(21,.o (.a (aG .i64 j)))]
end
def M5 (n c:Nat) (m:Nat):List (Option SV):=aD 36 0 [(0,.o (.a (.sld 0 0 0 n c))),(6,.o (.a (.slg 2 m)))]
def MN (e:Int):List (Option SV):=aD 36 0 [(4,.o (.a (.v (.slice none 0 0)))),(5,.o (.a (aG .i64 e)))]
def MR (r:Nat):List (Option SV):=aD 36 0 [(4,.o (.a (.slg 2 r))),(5,.o (.a (aG .i64 0)))]
section
variable (A:List Lf) (n c:Nat) (ty:TypeId) (B:List Lf) (m d:Nat) (ty2:TypeId)
theorem di0:oI (M0 n c m d) (m0 A ty B ty2):=by delta oI;kernel_rfl
theorem diP (us:List Value) (lo:Nat) (hi:Option Nat):oI (MP n c m d) (m1 A ty B ty2 us lo hi):=by delta oI;kernel_rfl
theorem diQ:oI (MQ n c m d) (m0 A ty B ty2):=by delta oI;kernel_rfl
theorem di1 (b:Bool):oI (M1 n c m d b) (m0 A ty B ty2):=by delta oI;kernel_rfl
theorem di3 (us:List Value):oI (M3 n c m d) (m2 A ty B m ty2 us):=by delta oI;kernel_rfl
theorem di4 (us:List Value) (j:Int):oI (M4 n c m d j) (m2 A ty B m ty2 us):=by delta oI;kernel_rfl
end
section
variable (A:List Lf)
theorem di5 (n c:Nat) (ty:TypeId) (B:List Lf) (m:Nat) (ty2:TypeId) (us:List Value):oI (M5 n c m) (m2 A ty B m ty2 us):=by delta oI;kernel_rfl
theorem diN (ty:TypeId) (B:List Lf) (ty2:TypeId) (e:Int):oI (MN e) (m0 A ty B ty2):=by delta oI;kernel_rfl
theorem diR (ty:TypeId) (B:List Lf) (ty2:TypeId) (us:List Value) (r:Nat):oI (MR r) (mr A ty B ty2 us r):=by delta oI;kernel_rfl
theorem s0 (n c:Nat) (ty:TypeId) (B:List Lf) (m d:Nat) (ty2:TypeId):oX Γ1 300 (eD 1 body) (aK fn [.o (.a (.sld 0 0 0 n c)),.o (.a (.sld 1 0 0 m d))]) (m0 A ty B ty2) [] .normal (M0 n c m d) (m0 A ty B ty2) []:=by delta oX;kernel_rfl
theorem cP (n c:Nat) (ty:TypeId) (B:List Lf) (m d:Nat) (ty2:TypeId) (g:Nat→SV):oU [0,1,2] Γ1 R1 0 2 (fill g 0 (M0 n c m d )) (m0 A ty B ty2) [] (MP n c m d) (m1 A ty B ty2 (((lvals A).drop (0+0)).take (n*64)) n none) [0+0+n*64≤(lvals A).length,0<n,Room Tryd.prog 30 n]:=by delta oU;kernel_rfl
theorem cQ (n c:Nat) (ty:TypeId) (B:List Lf) (m d:Nat) (ty2:TypeId) (g:Nat→SV):oT Γ1 R1 0 2 (fill g 0 (M0 n c m d )) (m0 A ty B ty2) [(10,[.dyn])] (MQ n c m d) (m0 A ty B ty2) [0+0+n*64≤(lvals A).length,n=0]:=by delta oT;kernel_rfl
theorem pg (n c:Nat) (ty:TypeId) (B:List Lf) (m d:Nat) (ty2:TypeId) (us:List Value) (b:Bool) (g:Nat→SV):oU [0,1] Γ1 R1 2 5 (fill g 0 (MP n c m d )) (m1 A ty B ty2 us (n+m) none) [(12,[.dyn]),(14,[.s (aI.enc b)])] (M1 n c m d b) (m0 A ty B ty2) [0+0+m*64≤(lvals B).length,n*64=us.length,n+m≤n+m,∀v∈((lvals B).drop (0+0)).take (m*64),v.oneCell'=true,0+0+(n+m)*64≤(us++((lvals B).drop (0+0)).take (m*64)).length,n+m≤n+m,((us++((lvals B).drop (0+0)).take (m*64)).drop (0+0)).take ((n+m)*64)=lvals (av (((us++((lvals B).drop (0+0)).take (m*64)).drop (0+0)).take ((n+m)*64))),(av (((us++((lvals B).drop (0+0)).take (m*64)).drop (0+0)).take ((n+m)*64))).length=n+m,n+m≤4000000,bI (av (((us++((lvals B).drop (0+0)).take (m*64)).drop (0+0)).take ((n+m)*64))),0+0+(n+m)*65≤(ah (bq (av (((us++((lvals B).drop (0+0)).take (m*64)).drop (0+0)).take ((n+m)*64))))).length,n+m≤n+m,((ah (bq (av (((us++((lvals B).drop (0+0)).take (m*64)).drop (0+0)).take ((n+m)*64))))).drop (0+0)).take ((n+m)*65)=ah (ak (((ah (bq (av (((us++((lvals B).drop (0+0)).take (m*64)).drop (0+0)).take ((n+m)*64))))).drop (0+0)).take ((n+m)*65))),(ak (((ah (bq (av (((us++((lvals B).drop (0+0)).take (m*64)).drop (0+0)).take ((n+m)*64))))).drop (0+0)).take ((n+m)*65))).length=n+m,n+m<bK,bg (ak (((ah (bq (av (((us++((lvals B).drop (0+0)).take (m*64)).drop (0+0)).take ((n+m)*64))))).drop (0+0)).take ((n+m)*65))),aI.enc (bC (ak (((ah (bq (av (((us++((lvals B).drop (0+0)).take (m*64)).drop (0+0)).take ((n+m)*64))))).drop (0+0)).take ((n+m)*65))))=aI.enc b]:=by delta oU;kernel_rfl
theorem pr (n c:Nat) (ty:TypeId) (B:List Lf) (m d:Nat) (ty2:TypeId) (us:List Value) (b:Bool) (lo:Nat) (g:Nat→SV):oU [0,1] Γ1 R1 2 5 (fill g 0 (MP n c m d )) (m1 A ty B ty2 us lo (some (n+m))) [(12,[.dyn]),(14,[.s (aI.enc b)])] (M1 n c m d b) (m0 A ty B ty2) [0+0+m*64≤(lvals B).length,n*64=us.length,n+m≤n+m,Room Tryd.prog 30 (n+m),0+0+(n+m)*64≤(us++((lvals B).drop (0+0)).take (m*64)).length,n+m≤n+m,((us++((lvals B).drop (0+0)).take (m*64)).drop (0+0)).take ((n+m)*64)=lvals (av (((us++((lvals B).drop (0+0)).take (m*64)).drop (0+0)).take ((n+m)*64))),(av (((us++((lvals B).drop (0+0)).take (m*64)).drop (0+0)).take ((n+m)*64))).length=n+m,n+m≤4000000,bI (av (((us++((lvals B).drop (0+0)).take (m*64)).drop (0+0)).take ((n+m)*64))),0+0+(n+m)*65≤(ah (bq (av (((us++((lvals B).drop (0+0)).take (m*64)).drop (0+0)).take ((n+m)*64))))).length,n+m≤n+m,((ah (bq (av (((us++((lvals B).drop (0+0)).take (m*64)).drop (0+0)).take ((n+m)*64))))).drop (0+0)).take ((n+m)*65)=ah (ak (((ah (bq (av (((us++((lvals B).drop (0+0)).take (m*64)).drop (0+0)).take ((n+m)*64))))).drop (0+0)).take ((n+m)*65))),(ak (((ah (bq (av (((us++((lvals B).drop (0+0)).take (m*64)).drop (0+0)).take ((n+m)*64))))).drop (0+0)).take ((n+m)*65))).length=n+m,n+m<bK,bg (ak (((ah (bq (av (((us++((lvals B).drop (0+0)).take (m*64)).drop (0+0)).take ((n+m)*64))))).drop (0+0)).take ((n+m)*65))),aI.enc (bC (ak (((ah (bq (av (((us++((lvals B).drop (0+0)).take (m*64)).drop (0+0)).take ((n+m)*64))))).drop (0+0)).take ((n+m)*65))))=aI.enc b]:=by delta oU;kernel_rfl
theorem qp (n c:Nat) (ty:TypeId) (B:List Lf) (m d:Nat) (ty2:TypeId) (b:Bool) (g:Nat→SV):oU [0,1] Γ1 R1 2 5 (fill g 0 (MQ n c m d )) (m0 A ty B ty2) [(14,[.s (aI.enc b)])] (M1 n c m d b) (m0 A ty B ty2) [0+0+m*64≤(lvals B).length,0<m,Room Tryd.prog 30 m,0+0+(m)*64≤(((lvals B).drop (0+0)).take (m*64)).length,m≤m,((((lvals B).drop (0+0)).take (m*64)).drop (0+0)).take ((m)*64)=lvals (av (((((lvals B).drop (0+0)).take (m*64)).drop (0+0)).take ((m)*64))),(av (((((lvals B).drop (0+0)).take (m*64)).drop (0+0)).take ((m)*64))).length=m,m≤4000000,bI (av (((((lvals B).drop (0+0)).take (m*64)).drop (0+0)).take ((m)*64))),0+0+(m)*65≤(ah (bq (av (((((lvals B).drop (0+0)).take (m*64)).drop (0+0)).take ((m)*64))))).length,m≤m,((ah (bq (av (((((lvals B).drop (0+0)).take (m*64)).drop (0+0)).take ((m)*64))))).drop (0+0)).take ((m)*65)=ah (ak (((ah (bq (av (((((lvals B).drop (0+0)).take (m*64)).drop (0+0)).take ((m)*64))))).drop (0+0)).take ((m)*65))),(ak (((ah (bq (av (((((lvals B).drop (0+0)).take (m*64)).drop (0+0)).take ((m)*64))))).drop (0+0)).take ((m)*65))).length=m,m<bK,bg (ak (((ah (bq (av (((((lvals B).drop (0+0)).take (m*64)).drop (0+0)).take ((m)*64))))).drop (0+0)).take ((m)*65))),aI.enc (bC (ak (((ah (bq (av (((((lvals B).drop (0+0)).take (m*64)).drop (0+0)).take ((m)*64))))).drop (0+0)).take ((m)*65))))=aI.enc b]:=by delta oU;kernel_rfl
theorem qz (n c:Nat) (ty:TypeId) (B:List Lf) (m d:Nat) (ty2:TypeId) (b:Bool) (g:Nat→SV):oU [0,1] Γ1 R1 2 5 (fill g 0 (MQ n c m d )) (m0 A ty B ty2) [(12,[.dyn]),(14,[.s (aI.enc b)])] (M1 n c m d b) (m0 A ty B ty2) [0+0+m*64≤(lvals B).length,m=0,0+0+0*65≤(ah (bq [])).length,0≤0,((ah (bq [])).drop (0+0)).take (0*65)=ah (ak (((ah (bq [])).drop (0+0)).take (0*65))),(ak (((ah (bq [])).drop (0+0)).take (0*65))).length=0,0<bK,bg (ak (((ah (bq [])).drop (0+0)).take (0*65))),aI.enc (bC (ak (((ah (bq [])).drop (0+0)).take (0*65))))=aI.enc b]:=by delta oU;kernel_rfl
end
theorem nil1:((opsOf R1).toList.drop 2).drop 5=[]:=by kernel_rfl
section
variable (A:List Lf) (n c:Nat) (ty:TypeId) (B:List Lf) (m d:Nat) (ty2:TypeId)
theorem cE (g:Nat→SV):oX Γ1 300 C (fill g 0 (M1 n c m d false)) (m0 A ty B ty2) [] .ret (MN 1) (m0 A ty B ty2) []:=by delta oX;kernel_rfl
theorem cO (g:Nat→SV):oX Γ1 300 C (fill g 0 (M1 n c m d true)) (m0 A ty B ty2) [] .normal (M0 n c m d) (m0 A ty B ty2) []:=by delta oX;kernel_rfl
theorem mk (g:Nat→SV):oN [0,1,2] Γ1 100 R3 (fill g 0 (M0 n c m d )) (m0 A ty B ty2) [] .normal (M3 n c m d) (m2 A ty B m ty2 (iT (fu zB) m)) [0≤(m:Int),(m:Int)=m,Room Tryd.prog 24 m]:=by delta oN;kernel_rfl
theorem a4 (us:List Value) (g:Nat→SV):oX Γ1 300 A4 (fill g 0 (M3 n c m d )) (m2 A ty B m ty2 us) [] .normal (M4 n c m d 0) (m2 A ty B m ty2 us) []:=by delta oX;kernel_rfl
theorem stp (us:List Value) (j j':Int) (x:Lf) (g:Nat→SV):oN [0,1,2] Γ1 100 L (fill g 0 (M4 n c m d j)) (m2 A ty B m ty2 us) [(22,[.b true]),(25,[.ds (cLf.enc x)]),(31,[.n j'])] .normal (M4 n c m d j') (m2 A ty B m ty2 (putV (0+aN 0 j 32) (fu x.lab) us)) [decide (j<m)=true,0≤j,j<m,0+aN 0 j 64+64≤(lvals B).length,SV.o (.g (bn (lvals B) (0+aN 0 j 64) 64))=cLf.enc x,0≤j,j<m,0+aN 0 j 32+32≤us.length,IntKind.i64.wrap (j+1)=j']:=by delta oN;kernel_rfl
theorem out (us:List Value) (j:Int) (g:Nat→SV):oX Γ1 300 L (fill g 0 (M4 n c m d j)) (m2 A ty B m ty2 us) [(22,[.b false])] (.exit 0) (M5 n c m) (m2 A ty B m ty2 us) [decide (j<m)=false]:=by delta oX;kernel_rfl
end
section
variable (H:Nd→Nd→B32) (hH:H=hV) (A:List Lf) (n c:Nat) (ty:TypeId) (B:List Lf) (m:Nat) (ty2:TypeId) (us:List Value) (g:Nat→SV)
theorem fP:oN [0,1,4] (ΓP H hH) 100 Z (fill g 0 (M5 n c m )) (m2 A ty B m ty2 us) [] .ret (MR (cK H false (ak (((ah (bq (av (((lvals A).drop (0+0)).take (n*64))))).drop (0+0)).take (n*65))) (aO ((us.drop (0+0)).take (m*32)))).length) (mr A ty B ty2 (ah (cK H false (ak (((ah (bq (av (((lvals A).drop (0+0)).take (n*64))))).drop (0+0)).take (n*65))) (aO ((us.drop (0+0)).take (m*32))))) (cK H false (ak (((ah (bq (av (((lvals A).drop (0+0)).take (n*64))))).drop (0+0)).take (n*65))) (aO ((us.drop (0+0)).take (m*32)))).length) [0+0+n*64≤(lvals A).length,n≤c,((lvals A).drop (0+0)).take (n*64)=lvals (av (((lvals A).drop (0+0)).take (n*64))),(av (((lvals A).drop (0+0)).take (n*64))).length=n,n≤4000000,bI (av (((lvals A).drop (0+0)).take (n*64))),0+0+n*65≤(ah (bq (av (((lvals A).drop (0+0)).take (n*64))))).length,n≤n,0+0+m*32≤us.length,m≤m,((ah (bq (av (((lvals A).drop (0+0)).take (n*64))))).drop (0+0)).take (n*65)=ah (ak (((ah (bq (av (((lvals A).drop (0+0)).take (n*64))))).drop (0+0)).take (n*65))),(ak (((ah (bq (av (((lvals A).drop (0+0)).take (n*64))))).drop (0+0)).take (n*65))).length=n,n<4000001,bg (ak (((ah (bq (av (((lvals A).drop (0+0)).take (n*64))))).drop (0+0)).take (n*65))),bC (ak (((ah (bq (av (((lvals A).drop (0+0)).take (n*64))))).drop (0+0)).take (n*65)))=true,(us.drop (0+0)).take (m*32)=aJ (aO ((us.drop (0+0)).take (m*32))),(aO ((us.drop (0+0)).take (m*32))).length=m,m≤4000000,gq (aO ((us.drop (0+0)).take (m*32))),(cK H false (ak (((ah (bq (av (((lvals A).drop (0+0)).take (n*64))))).drop (0+0)).take (n*65))) (aO ((us.drop (0+0)).take (m*32))))≠[]]:=by delta oN;kernel_rfl
theorem fZ:oN [0,1] (ΓZ H hH) 100 Z (fill g 0 (M5 n c m )) (m2 A ty B m ty2 us) [] .ret (MN 0) (m0 A ty B ty2) [0+0+n*64≤(lvals A).length,n≤c,((lvals A).drop (0+0)).take (n*64)=lvals (av (((lvals A).drop (0+0)).take (n*64))),(av (((lvals A).drop (0+0)).take (n*64))).length=n,n≤4000000,bI (av (((lvals A).drop (0+0)).take (n*64))),0+0+n*65≤(ah (bq (av (((lvals A).drop (0+0)).take (n*64))))).length,n≤n,0+0+m*32≤us.length,m≤m,((ah (bq (av (((lvals A).drop (0+0)).take (n*64))))).drop (0+0)).take (n*65)=ah (ak (((ah (bq (av (((lvals A).drop (0+0)).take (n*64))))).drop (0+0)).take (n*65))),(ak (((ah (bq (av (((lvals A).drop (0+0)).take (n*64))))).drop (0+0)).take (n*65))).length=n,n<4000001,bg (ak (((ah (bq (av (((lvals A).drop (0+0)).take (n*64))))).drop (0+0)).take (n*65))),bC (ak (((ah (bq (av (((lvals A).drop (0+0)).take (n*64))))).drop (0+0)).take (n*65)))=true,(us.drop (0+0)).take (m*32)=aJ (aO ((us.drop (0+0)).take (m*32))),(aO ((us.drop (0+0)).take (m*32))).length=m,m≤4000000,gq (aO ((us.drop (0+0)).take (m*32))),(cK H false (ak (((ah (bq (av (((lvals A).drop (0+0)).take (n*64))))).drop (0+0)).take (n*65))) (aO ((us.drop (0+0)).take (m*32))))=[]]:=by delta oN;kernel_rfl
end
theorem zn (A:List Lf) (ty:TypeId) (B:List Lf) (ty2:TypeId) (e:Int) (g:Nat→SV):eRes tys (fill g 0 (MN e)) (fun k=>(m0 A ty B ty2 )[k]?) fn.results.toList=some [.a (.v (.slice none 0 0)),.a (aG .i64 e)]:=by kernel_rfl
theorem zr (A:List Lf) (ty:TypeId) (B:List Lf) (ty2:TypeId) (us:List Value) (r:Nat) (g:Nat→SV):eRes tys (fill g 0 (MR r)) (fun k=>(mr A ty B ty2 us r)[k]?) fn.results.toList=some [.a (.slg 2 r),.a (aG .i64 0)]:=by kernel_rfl
end gst
def jR (B:List Lf):List B32:=B.map Lf.lab
noncomputable def stT (H:Nd→Nd→B32) (A B:List Lf):List Nd:=cK H false (bq A) (jR B)
theorem put_rep {α:Type} {f:α→List Value} {s:Nat} (hf:∀x,(f x).length=s) {d:List Value} (hd:d.length=s) (P:List α) {i n:Nat} (hP:P.length=i) (h:i<n) (x:α):
  putV (i*s) (f x) (P.flatMap f++iT d (n-i))=(P++[x]).flatMap f++iT d (n-(i+1)):=by
 have hl:(P.flatMap f).length=i*s:=by rw[pV hf P,hP]
 unfold putV
 rw[List.take_append_of_le_length (by omega),List.take_of_length_le (by omega),List.drop_append,hl,List.drop_eq_nil_of_le (by omega),List.nil_append,hf,show i*s+s-i*s=s by omega]
 rw[show n-i=(n-(i+1))+1 by omega,iT,List.drop_append,hd,Nat.sub_self,List.drop_zero,List.drop_eq_nil_of_le (by omega),List.nil_append,List.flatMap_append,List.append_assoc]
 simp
theorem bI.app {A B:List Lf} (hA:bI A) (hB:bI B):bI (A++B):=fun z hz=>(List.mem_append.1 hz).elim (hA z) (hB z)
theorem labs_ok {B:List Lf} (h:bI B):gq (jR B):=fun x hx=>by
 obtain⟨z,hz,rfl⟩:=List.mem_map.1 hx
 exact(h z hz).1
theorem labs_len (B:List Lf):(jR B).length=B.length:=List.length_map _
theorem labs_take {B:List Lf} {i:Nat} (h:i<B.length):jR (B.take (i+1))=jR (B.take i)++[(B.getD i zl).lab]:=by
 unfold jR
 rw[List.take_succ_eq_append_getElem h,List.map_append,getD_lt h]
 rfl
theorem qU {A B:List Lf} (h:((A++B).map bP).Pairwise NeP):(A.map bP).Pairwise NeP:=by
 rw[List.map_append] at h
 exact h.sublist (List.sublist_append_left _ _)
theorem ap_left {A B:List Lf} (hA:bI A) (hB:bI B) (ha:bC (bq (A++B))=true):fK A A.length=false∧bC (bq A)=true:=by
 have:=qg (qU (apart_ne (hA.app hB) ha)) A.length (Nat.le_refl _)
 exact⟨this,kN hA this⟩
theorem oneLs (l:List Lf):∀v∈lvals l,v.oneCell'=true:=fun v hv=>by
 obtain⟨x,_,hx⟩:=List.mem_flatMap.1 hv
 unfold Lf.vals at hx
 obtain⟨i,_,rfl⟩:=List.mem_map.1 hx
 rfl
namespace gst
noncomputable def Qs (b:Bool) (R:List Nd) (r:SV) (mm:List Blk):Prop:=
 (b=false∧bJ (.t [.a (.v (.slice none 0 0)),.a (aG .i64 1)]) .none r mm)∨(b=true∧R=[]∧bJ (.t [.a (.v (.slice none 0 0)),.a (aG .i64 0)]) .none r mm)∨(b=true∧R≠[]∧bJ (.t [.a (.slg 0 R.length),.a (aG .i64 0)]) (.new 33 (.grv 65 (ah R) R.length none)) r mm)
theorem reg (H:Nd→Nd→B32) (hH:H=hV) (A:List Lf) (n c:Nat) (ty:TypeId) (B:List Lf) (m d:Nat) (ty2:TypeId) (hn:A.length=n) (hm:B.length=m) (hb:n+m≤4000000) (hc:n≤c) (hd:m≤d) (hA:bI A) (hB:bI B) {Post:Ex→List SV→List Blk→Prop} (hp:∀g,Post .normal (fill g 0 (M1 n c m d (bC (bq (A++B))))) (m0 A ty B ty2)) (g:Nat→SV):
  aF Tryd.prog GT 2 (.region gst.i1 (opsOf R1) false) (fill g 0 (M0 n c m d)) (m0 A ty B ty2) Post:=by
 have hYA:((lvals A).drop (0+0)).take (n*64)=lvals A:=dtl hn
 have hYB:((lvals B).drop (0+0)).take (m*64)=lvals B:=dtl hm
 have la:(lvals A).length=n*64:=by rw[←hn];exact bU A
 have lb:(lvals B).length=m*64:=by rw[←hm];exact bU B
 have hab:=hA.app hB
 have lt:(bq (A++B)).length=n+m:=by rw[je,List.length_append,hn,hm]
 have lz:(ah (bq (A++B))).length=(n+m)*65:=by rw[bH,lt]
 have dT:((ah (bq (A++B))).drop (0+0)).take ((n+m)*65)=ah (bq (A++B)):=dtn lt
 have hk:=iV hab
 refine Runs.region ?_
 rcases Nat.eq_zero_or_pos n with h0 | h0
 ·subst h0
  obtain rfl:=List.eq_nil_of_length_eq_zero hn
  refine aS.au aj 2 (cQ [] 0 c ty B m d ty2 g) ⟨by omega,rfl,trivial⟩ (diQ [] 0 c ty B m d ty2) rfl fun g=> ?_
  rcases Nat.eq_zero_or_pos m with h1 | h1
  ·subst h1
   obtain rfl:=List.eq_nil_of_length_eq_zero hm
   refine aS.aP aj 5 [0,1] (qz [] 0 c ty [] 0 d ty2 (bC (bq [])) g) ?_ (di1 [] 0 c ty [] 0 d ty2 _) rfl fun g=> ?_
   ·rw[show((ah (bq [])).drop (0+0)).take (0*65)=ah (bq []) from dtn (by rw[kX];rfl),bE]
    exact⟨by omega,rfl,by omega,Nat.le_refl _,rfl,by rw[kX];rfl,by unfold bK;omega,iV (fun z hz=>by cases hz),rfl,trivial⟩
   ·rw[nil1]
    exact aS.nil (hp g)
  ·rw[List.nil_append] at hk lt lz dT
   rw[Nat.zero_add] at lt lz dT
   refine aS.aP aj 5 [0,1] (qp [] 0 c ty B m d ty2 (bC (bq B)) g) ?_ (di1 [] 0 c ty B m d ty2 _) rfl fun g=> ?_
   ·rw[hYB,hYB,bW,dT,bE]
    exact⟨by omega,h1,iw _ (by omega),by omega,Nat.le_refl _,rfl,hm,by omega,hB,by omega,Nat.le_refl _,rfl,lt,by unfold bK;omega,hk,rfl,trivial⟩
   ·rw[nil1]
    exact aS.nil (hp g)
 ·refine aS.aP aj 2 [0,1,2] (cP A n c ty B m d ty2 g) ⟨by omega,h0,iw n (by omega),trivial⟩ (diP A n c ty B m d ty2 _ _ _) rfl fun g=> ?_
  rw[hYA]
  have hAB:((lvals A++lvals B).drop (0+0)).take ((n+m)*64)=lvals (A++B):=by rw[←rV];exact dtl (by rw[List.length_append,hn,hm])
  have lAB:(lvals A++lvals B).length=(n+m)*64:=by rw[List.length_append,la,lb,Nat.add_mul]
  have lab:(A++B).length=n+m:=by rw[List.length_append,hn,hm]
  refine aS.mh 2 (n+m) (own:=true) (ty:=30) (s:=64) (vs:=lvals A) (lo:=n) rfl ?_ ?_
  ·refine aS.aP aj 5 [0,1] (pg A n c ty B m d ty2 (lvals A) (bC (bq (A++B))) g) ?_ (di1 A n c ty B m d ty2 _) rfl fun g=> ?_
   ·rw[hYB,hAB,bW,dT,bE]
    exact⟨by omega,by omega,Nat.le_refl _,oneLs B,by omega,Nat.le_refl _,rfl,lab,hb,hab,by omega,Nat.le_refl _,rfl,lt,by unfold bK;omega,hk,rfl,trivial⟩
   ·rw[nil1]
    exact aS.nil (hp g)
  ·refine aS.aP aj 5 [0,1] (pr A n c ty B m d ty2 (lvals A) (bC (bq (A++B))) n g) ?_ (di1 A n c ty B m d ty2 _) rfl fun g=> ?_
   ·rw[hYB,hAB,bW,dT,bE]
    exact⟨by omega,by omega,Nat.le_refl _,iw _ hb,by omega,Nat.le_refl _,rfl,lab,hb,hab,by omega,Nat.le_refl _,rfl,lt,by unfold bK;omega,hk,rfl,trivial⟩
   ·rw[nil1]
    exact aS.nil (hp g)
theorem run (H:Nd→Nd→B32) (hH:H=hV) (A:List Lf) (n c:Nat) (ty:TypeId) (B:List Lf) (m d:Nat) (ty2:TypeId) (hn:A.length=n) (hm:B.length=m) (hb:n+m≤4000000) (hc:n≤c) (hd:m≤d) (hA:bI A) (hB:bI B):aF Tryd.prog GT 2 body (aK fn [.o (.a (.sld 0 0 0 n c)),.o (.a (.sld 1 0 0 m d))]) [⟨false,ty,.prv (lvals A)⟩,⟨false,ty2,.prv (lvals B)⟩] (aH tys fn (fun r mm=>Qs (bC (bq (A++B))) (stT H A B) r mm)):=by
 refine Runs.dz aj mixed 1 (s0 A n c ty B m d ty2) trivial (di0 A n c ty B m d ty2) rfl fun g=> ?_
 rw[suf_1]
 refine Runs.seq (Runs.seq (reg H hH A n c ty B m d ty2 hn hm hb hc hd hA hB (fun g=> ?_) g))
 show aF _ _ _ _ _ _ _
 have hap:=fun h=>(ap_left (A:=A) (B:=B) hA hB h).2
 cases hb2:bC (bq (A++B)) with
 | false=>exact Runs.au aj mixed (cE A n c ty B m d ty2 g) trivial (diN A ty B ty2 _) rfl fun g=>aH.ret (zn A ty B ty2 _ g) (.inl ⟨rfl,rfl⟩)
 | true=>
  have hap:=hap hb2
  have hYA:((lvals A).drop (0+0)).take (n*64)=lvals A:=dtl hn
  have la:(lvals A).length=n*64:=by rw[←hn];exact bU A
  have lb:(lvals B).length=m*64:=by rw[←hm];exact bU B
  refine Runs.au aj mixed (cO A n c ty B m d ty2 g) trivial (di0 A n c ty B m d ty2) rfl fun g=> ?_
  show aF _ _ _ _ _ _ _
  rw[suf_2]
  refine Runs.seq (Runs.aP aj mixed [0,1,2] (mk A n c ty B m d ty2 g) ⟨by omega,rfl,roomL m (by omega),trivial⟩ (di3 A n c ty B m d ty2 _) rfl fun g=> ?_)
  refine Runs.seq (Runs.seq (Runs.au aj mixed (a4 A n c ty B m d ty2 _ g) trivial (di4 A n c ty B m d ty2 _ _) rfl fun g=> ?_))
  refine Runs.block ?_
  have h00:iT (fu zB) m=aJ (jR (B.take 0))++iT (fu zB) (m-0):=rfl
  rw[h00]
  refine Runs.dA (fun(i:Nat)=>M4 n c m d (i:Int)) (fun i=>m2 A ty B m ty2 (aJ (jR (B.take i))++iT (fu zB) (m-i))) (fun i=>i≤m) (fun i=>m-i) ?_ 0 (Nat.zero_le _) g
  rintro i g hi
  rcases Nat.lt_or_ge i m with h | h
  ·have o64:=offs i 64
   have o32:=offs i 32
   have hb6:i*64+64≤m*64:=by have:=Nat.mul_le_mul_right 64 (show i+1≤m by omega);omega
   have hb5:i*32+32≤m*32:=by have:=Nat.mul_le_mul_right 32 (show i+1≤m by omega);omega
   have hl:(jR (B.take i)).length=i:=by rw[labs_len,List.length_take];omega
   refine Runs.aP aj mixed [0,1,2] (stp A n c ty B m d ty2 _ i ((i+1:Nat):Int) (B.getD i zl) g) ⟨decide_eq_true (by omega),by omega,by omega,by rw[o64,lb];omega,by rw[o64];exact ld_lf B (by omega),by omega,by omega,?_,by rw[IntKind.wrap_i64];omega,trivial⟩ (di4 A n c ty B m d ty2 _ _) rfl fun g=> ?_
   ·rw[o32,List.length_append,l7,hl,nE,jQ,Nat.sub_mul]
    omega
   ·refine⟨i+1,g,rfl,?_,by omega,by omega⟩
    rw[o32,put_rep jQ (jQ zB) _ hl h,labs_take (by omega)]
  ·obtain rfl:i=m:=by omega
   have ht:B.take i=B:=List.take_of_length_le (by omega)
   have e:aJ (jR (B.take i))++iT (fu zB) (i-i)=aJ (jR B):=by rw[Nat.sub_self,iT,List.append_nil,ht]
   rw[e]
   refine Runs.au aj mixed (out A n c ty B i d ty2 _ _ g) ⟨decide_eq_false (by omega),trivial⟩ (di5 A n c ty B i ty2 _) rfl fun g=> ?_
   show aF _ _ _ _ _ _ _
   have lt:(bq A).length=n:=by rw[je,hn]
   have dT:((ah (bq A)).drop (0+0)).take (n*65)=ah (bq A):=dtn lt
   have lz:(ah (bq A)).length=n*65:=by rw[bH,lt]
   have ll:(jR B).length=i:=by rw[labs_len,hm]
   have lw:(aJ (jR B)).length=i*32:=by rw[l7,ll]
   have dW:((aJ (jR B)).drop (0+0)).take (i*32)=aJ (jR B):=dtb ll
   by_cases hR:stT H A B=[]
   ·refine Runs.aP aj mixed [0,1] (fZ H hH A n c ty B i ty2 _ g) ?_ (diN A ty B ty2 _) rfl fun g=>aH.ret (zn A ty B ty2 _ g) (.inr (.inl ⟨rfl,hR,rfl⟩))
    rw[hYA,bW,dT,dW,bE,nD]
    exact⟨by omega,hc,rfl,hn,by omega,hA,by omega,Nat.le_refl _,by omega,Nat.le_refl _,rfl,lt,by omega,iV hA,hap,rfl,ll,by omega,labs_ok hB,hR,trivial⟩
   ·have q:=fP H hH A n c ty B i ty2 (aJ (jR B)) g
    rw[hYA,bW,dT,dW,bE,nD] at q
    refine Runs.aP aj mixed [0,1,4] q ?_ (diR A ty B ty2 _ _) rfl fun g=>aH.ret (zr A ty B ty2 _ _ g) (.inr (.inr ⟨rfl,hR,2,rfl,rfl⟩))
    exact⟨by omega,hc,rfl,hn,by omega,hA,by omega,Nat.le_refl _,by omega,Nat.le_refl _,rfl,lt,by omega,iV hA,hap,rfl,ll,by omega,labs_ok hB,hR,trivial⟩
noncomputable def jX (H:Nd→Nd→B32):List aU→Option (SV × dH × Cst)
 | [.winv _ vs n ty,.winv _ ws m ty2]=>some (.t [.a (.v (.slice none 0 0)),.a (aG .i64 0)],.none,[vs=lvals (av vs),(av vs).length=n,ws=lvals (av ws),(av ws).length=m,n+m≤4000000,bI (av vs),bI (av ws),bC (bq (av vs++av ws))=true,stT H (av vs) (av ws)=[]])
 | _=>none
noncomputable def conZ (H:Nd→Nd→B32) (hH:H=hV):Con Tryd.prog GT:=Con.parts aj 44 fn Tryd.func44 (by kernel_rfl) (c:=body) (by kernel_rfl) [.winv 64,.winv 64] (jX H)
 (fun ps r e p h hp=>by
  unfold jX at h
  split at h<;>cases h
  exact⟨rfl,fun b hb=>by simp only[bf,aU.blk,List.append_nil,List.nil_append,List.cons_append,List.mem_cons,List.not_mem_nil,or_false] at hb;rcases hb with rfl | rfl<;>rfl⟩)
 (fun ps r e p cap h hp hi=>by
  unfold jX at h
  split at h<;>cases h
  rename_i s1 vs n ty s2 ws m ty2
  obtain⟨p1,p2,p3,p4,p5,p6,p7,p8,p9,_⟩:=hp
  obtain⟨⟨_,hc1⟩,⟨_,hc2⟩,_⟩:=hi
  have q:=run H hH (av vs) n (cap 0) ty (av ws) m (cap 1) ty2 p2 p4 p5 hc1 hc2 p6 p7
  rw[←p1,←p3] at q
  refine Runs.mono q fun e t m=>jJ fun r m h=> ?_
  rcases h with⟨h',_⟩ | ⟨_,_,h⟩ | ⟨_,h',_⟩
  ·rw[p8] at h';cases h'
  ·exact h
  ·exact absurd p9 h')
noncomputable def iW (H:Nd→Nd→B32):List aU→Option (SV × dH × Cst)
 | [.winv _ vs n ty,.winv _ ws m ty2]=>some (.t [.a (.slg 0 (stT H (av vs) (av ws)).length),.a (aG .i64 0)],.new 33 (.grv 65 (ah (stT H (av vs) (av ws))) (stT H (av vs) (av ws)).length none),[vs=lvals (av vs),(av vs).length=n,ws=lvals (av ws),(av ws).length=m,n+m≤4000000,bI (av vs),bI (av ws),bC (bq (av vs++av ws))=true,stT H (av vs) (av ws)≠[]])
 | _=>none
noncomputable def conP (H:Nd→Nd→B32) (hH:H=hV):Con Tryd.prog GT:=Con.parts aj 44 fn Tryd.func44 (by kernel_rfl) (c:=body) (by kernel_rfl) [.winv 64,.winv 64] (iW H)
 (fun ps r e p h hp=>by
  unfold iW at h
  split at h<;>cases h
  exact⟨rfl,fun b hb=>by simp only[bf,aU.blk,List.append_nil,List.nil_append,List.cons_append,List.mem_cons,List.not_mem_nil,or_false] at hb;rcases hb with rfl | rfl<;>rfl⟩)
 (fun ps r e p cap h hp hi=>by
  unfold iW at h
  split at h<;>cases h
  rename_i s1 vs n ty s2 ws m ty2
  obtain⟨p1,p2,p3,p4,p5,p6,p7,p8,p9,_⟩:=hp
  obtain⟨⟨_,hc1⟩,⟨_,hc2⟩,_⟩:=hi
  have q:=run H hH (av vs) n (cap 0) ty (av ws) m (cap 1) ty2 p2 p4 p5 hc1 hc2 p6 p7
  rw[←p1,←p3] at q
  refine Runs.mono q fun e t m=>jJ fun r m h=> ?_
  rcases h with⟨h',_⟩ | ⟨_,h',_⟩ | ⟨_,_,h⟩
  ·rw[p8] at h';cases h'
  ·exact absurd h' p9
  ·exact h)
end gst
def jY (x y:B32 × Int) (s t:B32):Int:=bif x.2==0&&y.2==0 then (bif eqL x.1.to s.to&&eqL y.1.to t.to then 0 else 3) else 1
noncomputable def kH (H:Nd→Nd→B32) (E:B32) (S:Nd→B32) (s t:B32) (V:List Nd) (B:List Lf):Int:=jY (bO H E S V) (bO H E S (bX (V++bq B))) s t
theorem mX (H:Nd→Nd→B32) (E:B32) (S:Nd→B32) (l:List Nd):(bO H E S l).2=0∨(bO H E S l).2=1:=by
 unfold bO
 cases bC l with
 | true=>left;rw[cond_true];cases Nat.beq l.length 0<;>rfl
 | false=>right;rfl
theorem bg.app {A B:List Nd} (hA:bg A) (hB:bg B):bg (A++B):=fun z hz=>(List.mem_append.1 hz).elim (hA z) (hB z)
theorem bg.sort {A:List Nd} (hA:bg A):bg (bX A):=fun z hz=>hA z ((mQ A).mem_iff.1 hz)
theorem bg.nil:bg []:=fun z hz=>by cases hz
namespace gck
noncomputable abbrev fn:=Tryd.f46
noncomputable def body:Code:=d9 fn
noncomputable def R1:Code:=cs1 (bM 1 body)
noncomputable def S2:Code:=bM 2 body
noncomputable def T:Code:=bM 3 S2
noncomputable def i1:Nat:=match R1 with | .region i _ _=>i | _=>0
theorem suf_1:bM 1 body= .seq (.region i1 (opsOf R1) false) S2:=by kernel_rfl
theorem nil1:((opsOf R1).toList.drop 2).drop 4=[]:=by kernel_rfl
theorem nil0:(opsOf R1).toList.drop 6=[]:=by kernel_rfl
noncomputable def Γ1:Cons Tryd.prog GT:=[tnd.con]
noncomputable def Γ2 (H:Nd→Nd→B32) (hH:H=hV) (E:B32) (hE':E=hE) (S:Nd→B32) (hS':S=hS):Cons Tryd.prog GT:=[sort_con,trt.con H hH E hE' S hS' ]
namespace pw
section
variable (s t:B32) (V:List Nd) (ty:TypeId) (B:List Lf) (ty2:TypeId)
def m0:List Blk:=[⟨false,ty,.prv (ah V)⟩,⟨false,ty2,.prv (lvals B)⟩,⟨true,24,.lit (ay.row s)⟩,⟨true,24,.lit (ay.row t)⟩]
def m1 (us:List Value) (lo:Nat) (hi:Option Nat):List Blk:=[⟨false,ty,.prv (ah V)⟩,⟨false,ty2,.prv (lvals B)⟩,⟨true,24,.lit (ay.row s)⟩,⟨true,24,.lit (ay.row t)⟩,⟨true,33,.grv 65 us lo hi⟩]
def mf (x y:B32):List Blk:=[⟨false,ty,.prv (ah V)⟩,⟨false,ty2,.prv (lvals B)⟩,⟨true,24,.lit (ay.row s)⟩,⟨true,24,.lit (ay.row t)⟩,⟨true,24,.lit (ay.row x)⟩,⟨true,24,.lit (ay.row y)⟩]
end
def M0 (n c:Nat) (m d:Nat):List (Option SV):=aD 47 0 [(2,.o (.a (.sld 0 0 0 n c))),(3,.o (.a (.sld 1 0 0 m d))),(4,.o (.a (.ptr 2 0))),(5,.o (.a (.ptr 3 0)))]
theorem i0 (s t:B32) (V:List Nd) (n c:Nat) (ty:TypeId) (B:List Lf) (m d:Nat) (ty2:TypeId):oI (M0 n c m d) (m0 s t V ty B ty2):=by delta oI;kernel_rfl
def M2 (n c:Nat) (k:Nat):List (Option SV):=aD 47 0 [(2,.o (.a (.sld 0 0 0 n c))),(4,.o (.a (.ptr 2 0))),(5,.o (.a (.ptr 3 0))),(9,.o (.a (.slg 4 k)))]
theorem i2 (s t:B32) (V:List Nd) (n c:Nat) (ty:TypeId) (B:List Lf) (ty2:TypeId) (k:Nat) (us:List Value) (lo:Nat) (hi:Option Nat):oI (M2 n c k) (m1 s t V ty B ty2 us lo hi):=by delta oI;kernel_rfl
def M5 (e f:Int):List (Option SV):=aD 47 0 [(4,.o (.a (.ptr 2 0))),(5,.o (.a (.ptr 3 0))),(10,.o (.a (.ptr 4 0))),(11,.o (.a (aG .i64 e))),(12,.o (.a (.ptr 5 0))),(13,.o (.a (aG .i64 f)))]
theorem i5 (s t:B32) (V:List Nd) (ty:TypeId) (B:List Lf) (ty2:TypeId) (e f:Int) (x y:B32):oI (M5 e f) (mf s t V ty B ty2 x y):=by delta oI;kernel_rfl
def MR (e:Int):List (Option SV):=aD 47 0 [(8,.o (.a (aG .i64 e)))]
def mo (V:List Nd) (ty:TypeId) (B:List Lf) (ty2:TypeId):List Blk:=[⟨false,ty,.prv (ah V)⟩,⟨false,ty2,.prv (lvals B)⟩]
theorem iR (V:List Nd) (ty:TypeId) (B:List Lf) (ty2:TypeId) (e:Int):oI (MR e) (mo V ty B ty2):=by delta oI;kernel_rfl
theorem s0 (s t:B32) (V:List Nd) (n c:Nat) (ty:TypeId) (B:List Lf) (m d:Nat) (ty2:TypeId):oX Γ1 300 (eD 1 body) (aK fn [ay.enc s,ay.enc t,.o (.a (.sld 0 0 0 n c)),.o (.a (.sld 1 0 0 m d))]) [⟨false,ty,.prv (ah V)⟩,⟨false,ty2,.prv (lvals B)⟩] [] .normal (M0 n c m d) (m0 s t V ty B ty2) []:=by delta oX;kernel_rfl
def MP (n c:Nat) (m d:Nat):List (Option SV):=aD 47 0 [(2,.o (.a (.sld 0 0 0 n c))),(3,.o (.a (.sld 1 0 0 m d))),(4,.o (.a (.ptr 2 0))),(5,.o (.a (.ptr 3 0))),(15,.o (.a (.slg 4 n)))]
section
variable (s t:B32) (V:List Nd) (n c:Nat) (ty:TypeId) (B:List Lf) (m d:Nat) (ty2:TypeId)
theorem iP (us:List Value) (lo:Nat) (hi:Option Nat):oI (MP n c m d) (m1 s t V ty B ty2 us lo hi):=by delta oI;kernel_rfl
theorem c1 (g:Nat→SV):oU [0,1,2,3,4] Γ1 R1 0 2 (fill g 0 (M0 n c m d )) (m0 s t V ty B ty2) [] (MP n c m d) (m1 s t V ty B ty2 (((ah V).drop (0+0)).take (n*65)) n none) [0+0+n*65≤(ah V).length,0<n,Room Tryd.prog 33 n]:=by delta oU;kernel_rfl
end
theorem g (H:Nd→Nd→B32) (hH:H=hV) (E:B32) (hE':E=hE) (S:Nd→B32) (hS':S=hS) (s t:B32) (V:List Nd) (n c:Nat) (ty:TypeId) (B:List Lf) (m d:Nat) (ty2:TypeId) (us:List Value) (g:Nat→SV):oU [0,1,2,3,4] Γ1 R1 2 4 (fill g 0 (MP n c m d )) (m1 s t V ty B ty2 us (n+m) none) [(18,[.dyn])] (M2 n c (n+m)) (m1 s t V ty B ty2 (us++((ah (bq (av (((lvals B).drop (0+0)).take (m*64))))).drop (0+0)).take (m*65)) (n+m) none) [0+0+m*64≤(lvals B).length,m≤d,((lvals B).drop (0+0)).take (m*64)=lvals (av (((lvals B).drop (0+0)).take (m*64))),(av (((lvals B).drop (0+0)).take (m*64))).length=m,m≤4000000,bI (av (((lvals B).drop (0+0)).take (m*64))),0+0+m*65≤(ah (bq (av (((lvals B).drop (0+0)).take (m*64))))).length,n*65=us.length,n+m≤n+m,∀v∈((ah (bq (av (((lvals B).drop (0+0)).take (m*64))))).drop (0+0)).take (m*65),v.oneCell'=true]:=by delta oU;kernel_rfl
theorem r (H:Nd→Nd→B32) (hH:H=hV) (E:B32) (hE':E=hE) (S:Nd→B32) (hS':S=hS) (s t:B32) (V:List Nd) (n c:Nat) (ty:TypeId) (B:List Lf) (m d:Nat) (ty2:TypeId) (us:List Value) (lo:Nat) (g:Nat→SV):oU [0,1,2,3,6] Γ1 R1 2 4 (fill g 0 (MP n c m d )) (m1 s t V ty B ty2 us lo (some (n+m))) [(18,[.dyn])] (M2 n c (n+m)) (m1 s t V ty B ty2 (us++((ah (bq (av (((lvals B).drop (0+0)).take (m*64))))).drop (0+0)).take (m*65)) (n+m) none) [0+0+m*64≤(lvals B).length,m≤d,((lvals B).drop (0+0)).take (m*64)=lvals (av (((lvals B).drop (0+0)).take (m*64))),(av (((lvals B).drop (0+0)).take (m*64))).length=m,m≤4000000,bI (av (((lvals B).drop (0+0)).take (m*64))),0+0+m*65≤(ah (bq (av (((lvals B).drop (0+0)).take (m*64))))).length,n*65=us.length,n+m≤n+m,Room Tryd.prog 33 (n+m)]:=by delta oU;kernel_rfl
theorem b (H:Nd→Nd→B32) (hH:H=hV) (E:B32) (hE':E=hE) (S:Nd→B32) (hS':S=hS) (s t:B32) (V:List Nd) (n c:Nat) (ty:TypeId) (B:List Lf) (m d:Nat) (ty2:TypeId) (vs:List Value) (k:Nat) (x:B32) (e:Int) (y:B32) (f:Int) (g:Nat→SV):oN [0,1,2,3,5,6] (Γ2 H hH E hE' S hS') 100 (eD 3 S2) (fill g 0 (M2 n c k)) (m1 s t V ty B ty2 vs k none) [(23,[.s (hsS (x,e))]),(28,[.s (hsS (y,f))])] .normal (M5 e f) (mf s t V ty B ty2 x y) [65=65,vs=ah (ak vs),(ak vs).length=k,k<4611686018427387904,0+0+n*65≤(ah V).length,n≤c,((ah V).drop (0+0)).take (n*65)=ah (ak (((ah V).drop (0+0)).take (n*65))),(ak (((ah V).drop (0+0)).take (n*65))).length=n,n<bK,bg (ak (((ah V).drop (0+0)).take (n*65))),hsS (bO H E S (ak (((ah V).drop (0+0)).take (n*65))))=hsS (x,e),0+0+k*65≤(ah (bX (ak vs))).length,k≤k,((ah (bX (ak vs))).drop (0+0)).take (k*65)=ah (ak (((ah (bX (ak vs))).drop (0+0)).take (k*65))),(ak (((ah (bX (ak vs))).drop (0+0)).take (k*65))).length=k,k<bK,bg (ak (((ah (bX (ak vs))).drop (0+0)).take (k*65))),hsS (bO H E S (ak (((ah (bX (ak vs))).drop (0+0)).take (k*65))))=hsS (y,f)]:=by delta oN;kernel_rfl
section
variable (s t:B32) (V:List Nd) (ty:TypeId) (B:List Lf) (ty2:TypeId) (x y:B32)
theorem t1 (f:Int) (g:Nat→SV):oX Γ1 300 T (fill g 0 (M5 1 f)) (mf s t V ty B ty2 x y) [] .ret (MR 1) (mo V ty B ty2) []:=by delta oX;kernel_rfl
theorem t2 (g:Nat→SV):oX Γ1 300 T (fill g 0 (M5 0 1)) (mf s t V ty B ty2 x y) [] .ret (MR 1) (mo V ty B ty2) []:=by delta oX;kernel_rfl
theorem t3 (g:Nat→SV):oX Γ1 300 T (fill g 0 (M5 0 0)) (mf s t V ty B ty2 x y) [(41,[.b true])] .ret (MR 3) (mo V ty B ty2) [(!eqL x.to s.to)=true]:=by delta oX;kernel_rfl
theorem t4 (g:Nat→SV):oX Γ1 300 T (fill g 0 (M5 0 0)) (mf s t V ty B ty2 x y) [(41,[.b false]),(45,[.b true])] .ret (MR 3) (mo V ty B ty2) [(!eqL x.to s.to)=false,(!eqL y.to t.to)=true]:=by delta oX;kernel_rfl
theorem t5 (g:Nat→SV):oX Γ1 300 T (fill g 0 (M5 0 0)) (mf s t V ty B ty2 x y) [(41,[.b false]),(45,[.b false])] .ret (MR 0) (mo V ty B ty2) [(!eqL x.to s.to)=false,(!eqL y.to t.to)=false]:=by delta oX;kernel_rfl
end
theorem zr (e:Int) (mm:Nat→Option Blk) (g:Nat→SV):eRes tys (fill g 0 (MR e)) mm fn.results.toList=some [.a (aG .i64 e)]:=by kernel_rfl
theorem tail (H:Nd→Nd→B32) (hH:H=hV) (E:B32) (hE':E=hE) (S:Nd→B32) (hS':S=hS) (s t:B32) (V:List Nd) (n c:Nat) (ty:TypeId) (B:List Lf) (m d:Nat) (ty2:TypeId) (x y:B32 × Int) (hx:x.2=0∨x.2=1) (hy:y.2=0∨y.2=1) (g:Nat→SV):aF Tryd.prog GT 2 T (fill g 0 (M5 x.2 y.2)) (mf s t V ty B ty2 x.1 y.1) (aH tys fn (bJ (.o (.a (aG .i64 (jY x y s t)))) .none)):=by
 obtain⟨x,e⟩:=x
 obtain⟨y,f⟩:=y
 rcases hx with rfl | rfl
 ·rcases hy with rfl | rfl
  ·cases h1:eqL x.to s.to with
   | false=>
    refine Runs.au aj mixed (t3 s t V ty B ty2 x y g) ⟨by rw[h1];rfl,trivial⟩ (iR V ty B ty2 _) rfl fun g=>aH.ret (zr _ _ g) ?_
    unfold jY;rw[h1];rfl
   | true=>
    cases h2:eqL y.to t.to with
    | false=>
     refine Runs.au aj mixed (t4 s t V ty B ty2 x y g) ⟨by rw[h1];rfl,by rw[h2];rfl,trivial⟩ (iR V ty B ty2 _) rfl fun g=>aH.ret (zr _ _ g) ?_
     unfold jY;rw[h1,h2];rfl
    | true=>
     refine Runs.au aj mixed (t5 s t V ty B ty2 x y g) ⟨by rw[h1];rfl,by rw[h2];rfl,trivial⟩ (iR V ty B ty2 _) rfl fun g=>aH.ret (zr _ _ g) ?_
     unfold jY;rw[h1,h2];rfl
  ·exact Runs.au aj mixed (t2 s t V ty B ty2 x y g) trivial (iR V ty B ty2 _) rfl fun g=>aH.ret (zr _ _ g) rfl
 ·exact Runs.au aj mixed (t1 s t V ty B ty2 x y f g) trivial (iR V ty B ty2 _) rfl fun g=>aH.ret (zr _ _ g) rfl
theorem back (H:Nd→Nd→B32) (hH:H=hV) (E:B32) (hE':E=hE) (S:Nd→B32) (hS':S=hS) (s t:B32) (V:List Nd) (n c:Nat) (ty:TypeId) (B:List Lf) (m d:Nat) (ty2:TypeId) (hn:V.length=n) (hc:n≤c) (hV':bg V) (hm:B.length=m) (hd:m≤d) (hB:bI B) (hb:n+m≤4000000) (h0:0<n) (U:List Nd) (k:Nat) (hk':bg U) (hk2:U.length=k) (hk3:k≤4000000) (g:Nat→SV):aF Tryd.prog GT 2 S2 (fill g 0 (M2 n c k)) (m1 s t V ty B ty2 (ah U) k none) (aH tys fn (bJ (.o (.a (aG .i64 (jY (bO H E S V) (bO H E S (bX U)) s t)))) .none)):=by
 have dN:((ah V).drop (0+0)).take (n*65)=ah V:=dtn hn
 have ln:(ah V).length=n*65:=by rw[←hn];exact bH V
 have dB:((lvals B).drop (0+0)).take (m*64)=lvals B:=dtl hm
 have lb:(lvals B).length=m*64:=by rw[←hm];exact bU B
 have lt:(bq B).length=m:=by rw[je,hm]
 have lz:(ah (bq B)).length=m*65:=by rw[bH,lt]
 have dT:((ah (bq B)).drop (0+0)).take (m*65)=ah (bq B):=dtn lt
 have hk:=iV hB
 have ls:(bX U).length=k:=by rw[jk,hk2]
 have dS:((ah (bX U)).drop (0+0)).take (k*65)=ah (bX U):=dtn ls
 have q:=b H hH E hE' S hS' s t V n c ty B m d ty2 (ah U) k (bO H E S V).1 (bO H E S V).2 (bO H E S (bX U)).1 (bO H E S (bX U)).2 g
 rw[bE,dS,bE,dN,bE] at q
 refine Runs.lJ aj mixed 3 [0,1,2,3,5,6] q ⟨rfl,rfl,hk2,by omega,by omega,hc,rfl,hn,by unfold bK;omega,hV',rfl,by rw[bH,ls];omega,Nat.le_refl _,rfl,ls,by unfold bK;omega,hk'.sort,rfl,trivial⟩ (i5 s t V ty B ty2 _ _ _ _) (by kernel_rfl) fun g=> ?_
 exact tail H hH E hE' S hS' s t V n c ty B m d ty2 _ _ (mX H E S _) (mX H E S _) g
theorem run (H:Nd→Nd→B32) (hH:H=hV) (E:B32) (hE':E=hE) (S:Nd→B32) (hS':S=hS) (s t:B32) (V:List Nd) (n c:Nat) (ty:TypeId) (B:List Lf) (m d:Nat) (ty2:TypeId) (hn:V.length=n) (hc:n≤c) (hV':bg V) (hm:B.length=m) (hd:m≤d) (hB:bI B) (hb:n+m≤4000000) (h0:0<n):aF Tryd.prog GT 2 body (aK fn [ay.enc s,ay.enc t,.o (.a (.sld 0 0 0 n c)),.o (.a (.sld 1 0 0 m d))]) [⟨false,ty,.prv (ah V)⟩,⟨false,ty2,.prv (lvals B)⟩] (aH tys fn (bJ (.o (.a (aG .i64 (kH H E S s t V B)))) .none)):=by
 have dN:((ah V).drop (0+0)).take (n*65)=ah V:=dtn hn
 have ln:(ah V).length=n*65:=by rw[←hn];exact bH V
 have dB:((lvals B).drop (0+0)).take (m*64)=lvals B:=dtl hm
 have lb:(lvals B).length=m*64:=by rw[←hm];exact bU B
 have lt:(bq B).length=m:=by rw[je,hm]
 have lz:(ah (bq B)).length=m*65:=by rw[bH,lt]
 have dT:((ah (bq B)).drop (0+0)).take (m*65)=ah (bq B):=dtn lt
 have hk:=iV hB
 refine Runs.dz aj mixed 1 (s0 s t V n c ty B m d ty2) trivial (i0 s t V n c ty B m d ty2) rfl fun g=> ?_
 rw[suf_1]
 refine Runs.seq (Runs.region ?_)
 unfold kH
 refine aS.aP aj 2 [0,1,2,3,4] (c1 s t V n c ty B m d ty2 g) ⟨by omega,h0,mY n (by omega),trivial⟩ (iP s t V n c ty B m d ty2 _ _ _) rfl fun g'=> ?_
 rw[dN]
 refine aS.mh 4 (n+m) (own:=true) (ty:=33) (s:=65) (vs:=ah V) (lo:=n) rfl ?_ ?_
 ·have q:=pw.g H hH E hE' S hS' s t V n c ty B m d ty2 (ah V) g'
  rw[dB,bW,dT] at q
  refine aS.aP aj 4 [0,1,2,3,4] q ⟨by omega,hd,rfl,hm,by omega,hB,by omega,by omega,Nat.le_refl _,oneVs _,trivial⟩ (i2 s t V n c ty B ty2 _ _ _ _) rfl fun g=> ?_
  rw[nil1,←ko]
  exact aS.nil (back H hH E hE' S hS' s t V n c ty B m d ty2 hn hc hV' hm hd hB hb h0 (V++bq B) (n+m) (hV'.app hk) (by rw[List.length_append,hn,lt]) hb g)
 ·have q:=pw.r H hH E hE' S hS' s t V n c ty B m d ty2 (ah V) n g'
  rw[dB,bW,dT] at q
  refine aS.aP aj 4 [0,1,2,3,6] q ⟨by omega,hd,rfl,hm,by omega,hB,by omega,by omega,Nat.le_refl _,mY _ hb,trivial⟩ (i2 s t V n c ty B ty2 _ _ _ _) rfl fun g=> ?_
  rw[nil1,←ko]
  exact aS.nil (back H hH E hE' S hS' s t V n c ty B m d ty2 hn hc hV' hm hd hB hb h0 (V++bq B) (n+m) (hV'.app hk) (by rw[List.length_append,hn,lt]) hb g)
end pw
namespace zw
section
variable (s t:B32) (V:List Nd) (ty:TypeId) (B:List Lf) (ty2:TypeId)
def m0:List Blk:=[⟨false,ty,.prv (ah V)⟩,⟨false,ty2,.prv (lvals B)⟩,⟨true,24,.lit (ay.row s)⟩,⟨true,24,.lit (ay.row t)⟩]
def m1 (us:List Value) (lo:Nat) (hi:Option Nat):List Blk:=[⟨false,ty,.prv (ah V)⟩,⟨false,ty2,.prv (lvals B)⟩,⟨true,24,.lit (ay.row s)⟩,⟨true,24,.lit (ay.row t)⟩,⟨true,33,.grv 65 us lo hi⟩]
def mf (x y:B32):List Blk:=[⟨false,ty,.prv (ah V)⟩,⟨false,ty2,.prv (lvals B)⟩,⟨true,24,.lit (ay.row s)⟩,⟨true,24,.lit (ay.row t)⟩,⟨true,24,.lit (ay.row x)⟩,⟨true,24,.lit (ay.row y)⟩]
end
def M0 (n c:Nat) (m d:Nat):List (Option SV):=aD 47 0 [(2,.o (.a (.sld 0 0 0 n c))),(3,.o (.a (.sld 1 0 0 m d))),(4,.o (.a (.ptr 2 0))),(5,.o (.a (.ptr 3 0)))]
theorem i0 (s t:B32) (V:List Nd) (n c:Nat) (ty:TypeId) (B:List Lf) (m d:Nat) (ty2:TypeId):oI (M0 n c m d) (m0 s t V ty B ty2):=by delta oI;kernel_rfl
def M2 (n c:Nat) (k:Nat):List (Option SV):=aD 47 0 [(2,.o (.a (.sld 0 0 0 n c))),(4,.o (.a (.ptr 2 0))),(5,.o (.a (.ptr 3 0))),(9,.o (.a (.slg 4 k)))]
theorem i2 (s t:B32) (V:List Nd) (n c:Nat) (ty:TypeId) (B:List Lf) (ty2:TypeId) (k:Nat) (us:List Value) (lo:Nat) (hi:Option Nat):oI (M2 n c k) (m1 s t V ty B ty2 us lo hi):=by delta oI;kernel_rfl
def Mz (n c:Nat):List (Option SV):=aD 47 0 [(2,.o (.a (.sld 0 0 0 n c))),(4,.o (.a (.ptr 2 0))),(5,.o (.a (.ptr 3 0))),(9,.o (.a (.v (.slice none 0 0))))]
theorem iz (s t:B32) (V:List Nd) (n c:Nat) (ty:TypeId) (B:List Lf) (ty2:TypeId):oI (Mz n c) (m0 s t V ty B ty2):=by delta oI;kernel_rfl
def M5 (e f:Int):List (Option SV):=aD 47 0 [(4,.o (.a (.ptr 2 0))),(5,.o (.a (.ptr 3 0))),(10,.o (.a (.ptr 4 0))),(11,.o (.a (aG .i64 e))),(12,.o (.a (.ptr 5 0))),(13,.o (.a (aG .i64 f)))]
theorem i5 (s t:B32) (V:List Nd) (ty:TypeId) (B:List Lf) (ty2:TypeId) (e f:Int) (x y:B32):oI (M5 e f) (mf s t V ty B ty2 x y):=by delta oI;kernel_rfl
def MR (e:Int):List (Option SV):=aD 47 0 [(8,.o (.a (aG .i64 e)))]
def mo (V:List Nd) (ty:TypeId) (B:List Lf) (ty2:TypeId):List Blk:=[⟨false,ty,.prv (ah V)⟩,⟨false,ty2,.prv (lvals B)⟩]
theorem iR (V:List Nd) (ty:TypeId) (B:List Lf) (ty2:TypeId) (e:Int):oI (MR e) (mo V ty B ty2):=by delta oI;kernel_rfl
theorem s0 (s t:B32) (V:List Nd) (n c:Nat) (ty:TypeId) (B:List Lf) (m d:Nat) (ty2:TypeId):oX Γ1 300 (eD 1 body) (aK fn [ay.enc s,ay.enc t,.o (.a (.sld 0 0 0 n c)),.o (.a (.sld 1 0 0 m d))]) [⟨false,ty,.prv (ah V)⟩,⟨false,ty2,.prv (lvals B)⟩] [] .normal (M0 n c m d) (m0 s t V ty B ty2) []:=by delta oX;kernel_rfl
theorem q (H:Nd→Nd→B32) (hH:H=hV) (E:B32) (hE':E=hE) (S:Nd→B32) (hS':S=hS) (s t:B32) (V:List Nd) (n c:Nat) (ty:TypeId) (B:List Lf) (m d:Nat) (ty2:TypeId) (g:Nat→SV):oU [0,1,2,3,5] Γ1 R1 0 6 (fill g 0 (M0 n c m d )) (m0 s t V ty B ty2) [(15,[.dyn])] (M2 n c m) (m1 s t V ty B ty2 (((ah (bq (av (((lvals B).drop (0+0)).take (m*64))))).drop (0+0)).take (m*65)) m none) [0+0+n*65≤(ah V).length,n=0,0+0+m*64≤(lvals B).length,m≤d,((lvals B).drop (0+0)).take (m*64)=lvals (av (((lvals B).drop (0+0)).take (m*64))),(av (((lvals B).drop (0+0)).take (m*64))).length=m,m≤4000000,bI (av (((lvals B).drop (0+0)).take (m*64))),0+0+m*65≤(ah (bq (av (((lvals B).drop (0+0)).take (m*64))))).length,0<m,Room Tryd.prog 33 m]:=by delta oU;kernel_rfl
theorem z (H:Nd→Nd→B32) (hH:H=hV) (E:B32) (hE':E=hE) (S:Nd→B32) (hS':S=hS) (s t:B32) (V:List Nd) (n c:Nat) (ty:TypeId) (B:List Lf) (m d:Nat) (ty2:TypeId) (g:Nat→SV):oU [0,1,2,3] Γ1 R1 0 6 (fill g 0 (M0 n c m d )) (m0 s t V ty B ty2) [(15,[.dyn]),(18,[.dyn])] (Mz n c) (m0 s t V ty B ty2) [0+0+n*65≤(ah V).length,n=0,0+0+m*64≤(lvals B).length,m≤d,((lvals B).drop (0+0)).take (m*64)=lvals (av (((lvals B).drop (0+0)).take (m*64))),(av (((lvals B).drop (0+0)).take (m*64))).length=m,m≤4000000,bI (av (((lvals B).drop (0+0)).take (m*64))),0+0+m*65≤(ah (bq (av (((lvals B).drop (0+0)).take (m*64))))).length,m=0]:=by delta oU;kernel_rfl
section
variable (H:Nd→Nd→B32) (hH:H=hV) (E:B32) (hE':E=hE) (S:Nd→B32) (hS':S=hS) (s t:B32) (V:List Nd) (n c:Nat) (ty:TypeId) (B:List Lf)
theorem b (m d:Nat) (ty2:TypeId) (vs:List Value) (k:Nat) (x:B32) (e:Int) (y:B32) (f:Int) (g:Nat→SV):oN [0,1,2,3,5,6] (Γ2 H hH E hE' S hS') 100 (eD 3 S2) (fill g 0 (M2 n c k)) (m1 s t V ty B ty2 vs k none) [(23,[.s (hsS (x,e))]),(28,[.s (hsS (y,f))])] .normal (M5 e f) (mf s t V ty B ty2 x y) [65=65,vs=ah (ak vs),(ak vs).length=k,k<4611686018427387904,0+0+n*65≤(ah V).length,n≤c,((ah V).drop (0+0)).take (n*65)=ah (ak (((ah V).drop (0+0)).take (n*65))),(ak (((ah V).drop (0+0)).take (n*65))).length=n,n<bK,bg (ak (((ah V).drop (0+0)).take (n*65))),hsS (bO H E S (ak (((ah V).drop (0+0)).take (n*65))))=hsS (x,e),0+0+k*65≤(ah (bX (ak vs))).length,k≤k,((ah (bX (ak vs))).drop (0+0)).take (k*65)=ah (ak (((ah (bX (ak vs))).drop (0+0)).take (k*65))),(ak (((ah (bX (ak vs))).drop (0+0)).take (k*65))).length=k,k<bK,bg (ak (((ah (bX (ak vs))).drop (0+0)).take (k*65))),hsS (bO H E S (ak (((ah (bX (ak vs))).drop (0+0)).take (k*65))))=hsS (y,f)]:=by delta oN;kernel_rfl
theorem bz (ty2:TypeId) (x:B32) (e:Int) (y:B32) (f:Int) (g:Nat→SV):oN [0,1,2,3,4,5] (Γ2 H hH E hE' S hS') 100 (eD 3 S2) (fill g 0 (Mz n c )) (m0 s t V ty B ty2) [(23,[.s (hsS (x,e))]),(28,[.s (hsS (y,f))])] .normal (M5 e f) (mf s t V ty B ty2 x y) [0+0+n*65≤(ah V).length,n≤c,((ah V).drop (0+0)).take (n*65)=ah (ak (((ah V).drop (0+0)).take (n*65))),(ak (((ah V).drop (0+0)).take (n*65))).length=n,n<bK,bg (ak (((ah V).drop (0+0)).take (n*65))),hsS (bO H E S (ak (((ah V).drop (0+0)).take (n*65))))=hsS (x,e),hsS (E,0)=hsS (y,f)]:=by delta oN;kernel_rfl
end
section
variable (s t:B32) (V:List Nd) (ty:TypeId) (B:List Lf) (ty2:TypeId) (x y:B32)
theorem t1 (f:Int) (g:Nat→SV):oX Γ1 300 T (fill g 0 (M5 1 f)) (mf s t V ty B ty2 x y) [] .ret (MR 1) (mo V ty B ty2) []:=by delta oX;kernel_rfl
theorem t2 (g:Nat→SV):oX Γ1 300 T (fill g 0 (M5 0 1)) (mf s t V ty B ty2 x y) [] .ret (MR 1) (mo V ty B ty2) []:=by delta oX;kernel_rfl
theorem t3 (g:Nat→SV):oX Γ1 300 T (fill g 0 (M5 0 0)) (mf s t V ty B ty2 x y) [(41,[.b true])] .ret (MR 3) (mo V ty B ty2) [(!eqL x.to s.to)=true]:=by delta oX;kernel_rfl
theorem t4 (g:Nat→SV):oX Γ1 300 T (fill g 0 (M5 0 0)) (mf s t V ty B ty2 x y) [(41,[.b false]),(45,[.b true])] .ret (MR 3) (mo V ty B ty2) [(!eqL x.to s.to)=false,(!eqL y.to t.to)=true]:=by delta oX;kernel_rfl
theorem t5 (g:Nat→SV):oX Γ1 300 T (fill g 0 (M5 0 0)) (mf s t V ty B ty2 x y) [(41,[.b false]),(45,[.b false])] .ret (MR 0) (mo V ty B ty2) [(!eqL x.to s.to)=false,(!eqL y.to t.to)=false]:=by delta oX;kernel_rfl
end
theorem zr (e:Int) (mm:Nat→Option Blk) (g:Nat→SV):eRes tys (fill g 0 (MR e)) mm fn.results.toList=some [.a (aG .i64 e)]:=by kernel_rfl
theorem tail (H:Nd→Nd→B32) (hH:H=hV) (E:B32) (hE':E=hE) (S:Nd→B32) (hS':S=hS) (s t:B32) (V:List Nd) (n c:Nat) (ty:TypeId) (B:List Lf) (m d:Nat) (ty2:TypeId) (x y:B32 × Int) (hx:x.2=0∨x.2=1) (hy:y.2=0∨y.2=1) (g:Nat→SV):aF Tryd.prog GT 2 T (fill g 0 (M5 x.2 y.2)) (mf s t V ty B ty2 x.1 y.1) (aH tys fn (bJ (.o (.a (aG .i64 (jY x y s t)))) .none)):=by
 obtain⟨x,e⟩:=x
 obtain⟨y,f⟩:=y
 rcases hx with rfl | rfl
 ·rcases hy with rfl | rfl
  ·cases h1:eqL x.to s.to with
   | false=>
    refine Runs.au aj mixed (t3 s t V ty B ty2 x y g) ⟨by rw[h1];rfl,trivial⟩ (iR V ty B ty2 _) rfl fun g=>aH.ret (zr _ _ g) ?_
    unfold jY;rw[h1];rfl
   | true=>
    cases h2:eqL y.to t.to with
    | false=>
     refine Runs.au aj mixed (t4 s t V ty B ty2 x y g) ⟨by rw[h1];rfl,by rw[h2];rfl,trivial⟩ (iR V ty B ty2 _) rfl fun g=>aH.ret (zr _ _ g) ?_
     unfold jY;rw[h1,h2];rfl
    | true=>
     refine Runs.au aj mixed (t5 s t V ty B ty2 x y g) ⟨by rw[h1];rfl,by rw[h2];rfl,trivial⟩ (iR V ty B ty2 _) rfl fun g=>aH.ret (zr _ _ g) ?_
     unfold jY;rw[h1,h2];rfl
  ·exact Runs.au aj mixed (t2 s t V ty B ty2 x y g) trivial (iR V ty B ty2 _) rfl fun g=>aH.ret (zr _ _ g) rfl
 ·exact Runs.au aj mixed (t1 s t V ty B ty2 x y f g) trivial (iR V ty B ty2 _) rfl fun g=>aH.ret (zr _ _ g) rfl
theorem back (H:Nd→Nd→B32) (hH:H=hV) (E:B32) (hE':E=hE) (S:Nd→B32) (hS':S=hS) (s t:B32) (V:List Nd) (n c:Nat) (ty:TypeId) (B:List Lf) (m d:Nat) (ty2:TypeId) (hn:V.length=n) (hc:n≤c) (hV':bg V) (hm:B.length=m) (hd:m≤d) (hB:bI B) (hb:n+m≤4000000) (h0:n=0) (U:List Nd) (k:Nat) (hk':bg U) (hk2:U.length=k) (hk3:k≤4000000) (g:Nat→SV):aF Tryd.prog GT 2 S2 (fill g 0 (M2 n c k)) (m1 s t V ty B ty2 (ah U) k none) (aH tys fn (bJ (.o (.a (aG .i64 (jY (bO H E S V) (bO H E S (bX U)) s t)))) .none)):=by
 have dN:((ah V).drop (0+0)).take (n*65)=ah V:=dtn hn
 have ln:(ah V).length=n*65:=by rw[←hn];exact bH V
 have dB:((lvals B).drop (0+0)).take (m*64)=lvals B:=dtl hm
 have lb:(lvals B).length=m*64:=by rw[←hm];exact bU B
 have lt:(bq B).length=m:=by rw[je,hm]
 have lz:(ah (bq B)).length=m*65:=by rw[bH,lt]
 have dT:((ah (bq B)).drop (0+0)).take (m*65)=ah (bq B):=dtn lt
 have hk:=iV hB
 have ls:(bX U).length=k:=by rw[jk,hk2]
 have dS:((ah (bX U)).drop (0+0)).take (k*65)=ah (bX U):=dtn ls
 have q:=b H hH E hE' S hS' s t V n c ty B m d ty2 (ah U) k (bO H E S V).1 (bO H E S V).2 (bO H E S (bX U)).1 (bO H E S (bX U)).2 g
 rw[bE,dS,bE,dN,bE] at q
 refine Runs.lJ aj mixed 3 [0,1,2,3,5,6] q ⟨rfl,rfl,hk2,by omega,by omega,hc,rfl,hn,by unfold bK;omega,hV',rfl,by rw[bH,ls];omega,Nat.le_refl _,rfl,ls,by unfold bK;omega,hk'.sort,rfl,trivial⟩ (i5 s t V ty B ty2 _ _ _ _) (by kernel_rfl) fun g=> ?_
 exact tail H hH E hE' S hS' s t V n c ty B m d ty2 _ _ (mX H E S _) (mX H E S _) g
theorem backz (H:Nd→Nd→B32) (hH:H=hV) (E:B32) (hE':E=hE) (S:Nd→B32) (hS':S=hS) (s t:B32) (V:List Nd) (n c:Nat) (ty:TypeId) (B:List Lf) (m d:Nat) (ty2:TypeId) (hn:V.length=n) (hc:n≤c) (hV':bg V) (hm:B.length=m) (hd:m≤d) (hB:bI B) (hb:n+m≤4000000) (h0:n=0) (g:Nat→SV):aF Tryd.prog GT 2 S2 (fill g 0 (Mz n c)) (m0 s t V ty B ty2) (aH tys fn (bJ (.o (.a (aG .i64 (jY (bO H E S V) (E,0) s t)))) .none)):=by
 have dN:((ah V).drop (0+0)).take (n*65)=ah V:=dtn hn
 have ln:(ah V).length=n*65:=by rw[←hn];exact bH V
 have dB:((lvals B).drop (0+0)).take (m*64)=lvals B:=dtl hm
 have lb:(lvals B).length=m*64:=by rw[←hm];exact bU B
 have lt:(bq B).length=m:=by rw[je,hm]
 have lz:(ah (bq B)).length=m*65:=by rw[bH,lt]
 have dT:((ah (bq B)).drop (0+0)).take (m*65)=ah (bq B):=dtn lt
 have hk:=iV hB
 have q:=bz H hH E hE' S hS' s t V n c ty B ty2 (bO H E S V).1 (bO H E S V).2 E 0 g
 rw[dN,bE] at q
 refine Runs.lJ aj mixed 3 [0,1,2,3,4,5] q ⟨by omega,hc,rfl,hn,by unfold bK;omega,hV',rfl,rfl,trivial⟩ (i5 s t V ty B ty2 _ _ _ _) (by kernel_rfl) fun g=> ?_
 exact tail H hH E hE' S hS' s t V n c ty B m d ty2 (bO H E S V) (E,0) (mX H E S _) (.inl rfl) g
theorem run (H:Nd→Nd→B32) (hH:H=hV) (E:B32) (hE':E=hE) (S:Nd→B32) (hS':S=hS) (s t:B32) (V:List Nd) (n c:Nat) (ty:TypeId) (B:List Lf) (m d:Nat) (ty2:TypeId) (hn:V.length=n) (hc:n≤c) (hV':bg V) (hm:B.length=m) (hd:m≤d) (hB:bI B) (hb:n+m≤4000000) (h0:n=0):aF Tryd.prog GT 2 body (aK fn [ay.enc s,ay.enc t,.o (.a (.sld 0 0 0 n c)),.o (.a (.sld 1 0 0 m d))]) [⟨false,ty,.prv (ah V)⟩,⟨false,ty2,.prv (lvals B)⟩] (aH tys fn (bJ (.o (.a (aG .i64 (kH H E S s t V B)))) .none)):=by
 have dN:((ah V).drop (0+0)).take (n*65)=ah V:=dtn hn
 have ln:(ah V).length=n*65:=by rw[←hn];exact bH V
 have dB:((lvals B).drop (0+0)).take (m*64)=lvals B:=dtl hm
 have lb:(lvals B).length=m*64:=by rw[←hm];exact bU B
 have lt:(bq B).length=m:=by rw[je,hm]
 have lz:(ah (bq B)).length=m*65:=by rw[bH,lt]
 have dT:((ah (bq B)).drop (0+0)).take (m*65)=ah (bq B):=dtn lt
 have hk:=iV hB
 refine Runs.dz aj mixed 1 (s0 s t V n c ty B m d ty2) trivial (i0 s t V n c ty B m d ty2) rfl fun g=> ?_
 rw[suf_1]
 refine Runs.seq (Runs.region ?_)
 unfold kH
 obtain rfl:V=[]:=List.eq_nil_of_length_eq_zero (by omega)
 rcases Nat.eq_zero_or_pos m with h1 | h1
 ·obtain rfl:B=[]:=List.eq_nil_of_length_eq_zero (by omega)
  have q:=z H hH E hE' S hS' s t [] n c ty [] m d ty2 g
  rw[dB,bW] at q
  refine aS.aP aj 6 [0,1,2,3] q ⟨by omega,h0,by omega,hd,rfl,hm,by omega,hB,by omega,h1,trivial⟩ (iz s t [] n c ty [] ty2) rfl fun g=> ?_
  rw[nil0,kX,List.append_nil,show bX []=[] from List.eq_nil_of_length_eq_zero (jk []),show bO H E S []=(E,0) from rfl]
  exact aS.nil (backz H hH E hE' S hS' s t [] n c ty [] m d ty2 hn hc hV' hm hd hB hb h0 g)
 ·have q:=zw.q H hH E hE' S hS' s t [] n c ty B m d ty2 g
  rw[dB,bW,dT] at q
  refine aS.aP aj 6 [0,1,2,3,5] q ⟨by omega,h0,by omega,hd,rfl,hm,by omega,hB,by omega,h1,mY m (by omega),trivial⟩ (i2 s t [] n c ty B ty2 _ _ _ _) rfl fun g=> ?_
  rw[nil0,List.nil_append]
  exact aS.nil (back H hH E hE' S hS' s t [] n c ty B m d ty2 hn hc hV' hm hd hB hb h0 (bq B) m hk lt (by omega) g)
end zw
namespace nw
def m0 (s t:B32) (B:List Lf) (ty2:TypeId):List Blk:=[⟨false,ty2,.prv (lvals B)⟩,⟨true,24,.lit (ay.row s)⟩,⟨true,24,.lit (ay.row t)⟩]
def m1 (s t:B32) (B:List Lf) (ty2:TypeId) (us:List Value) (lo:Nat) (hi:Option Nat):List Blk:=[⟨false,ty2,.prv (lvals B)⟩,⟨true,24,.lit (ay.row s)⟩,⟨true,24,.lit (ay.row t)⟩,⟨true,33,.grv 65 us lo hi⟩]
def mf (s t:B32) (B:List Lf) (ty2:TypeId) (x y:B32):List Blk:=[⟨false,ty2,.prv (lvals B)⟩,⟨true,24,.lit (ay.row s)⟩,⟨true,24,.lit (ay.row t)⟩,⟨true,24,.lit (ay.row x)⟩,⟨true,24,.lit (ay.row y)⟩]
def M0 (a:Option Addr) (m d:Nat):List (Option SV):=aD 47 0 [(2,.o (.a (.v (.slice a 0 0)))),(3,.o (.a (.sld 0 0 0 m d))),(4,.o (.a (.ptr 1 0))),(5,.o (.a (.ptr 2 0)))]
theorem i0 (s t:B32) (a:Option Addr) (B:List Lf) (m d:Nat) (ty2:TypeId):oI (M0 a m d) (m0 s t B ty2):=by delta oI;kernel_rfl
def M2 (a:Option Addr) (k:Nat):List (Option SV):=aD 47 0 [(2,.o (.a (.v (.slice a 0 0)))),(4,.o (.a (.ptr 1 0))),(5,.o (.a (.ptr 2 0))),(9,.o (.a (.slg 3 k)))]
theorem i2 (s t:B32) (a:Option Addr) (B:List Lf) (ty2:TypeId) (k:Nat) (us:List Value) (lo:Nat) (hi:Option Nat):oI (M2 a k) (m1 s t B ty2 us lo hi):=by delta oI;kernel_rfl
def Mz (a:Option Addr):List (Option SV):=aD 47 0 [(2,.o (.a (.v (.slice a 0 0)))),(4,.o (.a (.ptr 1 0))),(5,.o (.a (.ptr 2 0))),(9,.o (.a (.v (.slice none 0 0))))]
theorem iz (s t:B32) (a:Option Addr) (B:List Lf) (ty2:TypeId):oI (Mz a) (m0 s t B ty2):=by delta oI;kernel_rfl
def M5 (a:Option Addr) (e f:Int):List (Option SV):=aD 47 0 [(4,.o (.a (.ptr 1 0))),(5,.o (.a (.ptr 2 0))),(10,.o (.a (.ptr 3 0))),(11,.o (.a (aG .i64 e))),(12,.o (.a (.ptr 4 0))),(13,.o (.a (aG .i64 f)))]
theorem i5 (s t:B32) (a:Option Addr) (B:List Lf) (ty2:TypeId) (e f:Int) (x y:B32):oI (M5 a e f) (mf s t B ty2 x y):=by delta oI;kernel_rfl
def MR (a:Option Addr) (e:Int):List (Option SV):=aD 47 0 [(8,.o (.a (aG .i64 e)))]
def mo (B:List Lf) (ty2:TypeId):List Blk:=[⟨false,ty2,.prv (lvals B)⟩]
theorem iR (a:Option Addr) (B:List Lf) (ty2:TypeId) (e:Int):oI (MR a e) (mo B ty2):=by delta oI;kernel_rfl
theorem s0 (s t:B32) (a:Option Addr) (B:List Lf) (m d:Nat) (ty2:TypeId):oX Γ1 300 (eD 1 body) (aK fn [ay.enc s,ay.enc t,.o (.a (.v (.slice a 0 0))),.o (.a (.sld 0 0 0 m d))]) [⟨false,ty2,.prv (lvals B)⟩] [] .normal (M0 a m d) (m0 s t B ty2) []:=by delta oX;kernel_rfl
theorem q (H:Nd→Nd→B32) (hH:H=hV) (E:B32) (hE':E=hE) (S:Nd→B32) (hS':S=hS) (s t:B32) (a:Option Addr) (B:List Lf) (m d:Nat) (ty2:TypeId) (g:Nat→SV):oU [0,1,2,4] Γ1 R1 0 6 (fill g 0 (M0 a m d )) (m0 s t B ty2) [(15,[.dyn])] (M2 a m) (m1 s t B ty2 (((ah (bq (av (((lvals B).drop (0+0)).take (m*64))))).drop (0+0)).take (m*65)) m none) [0=0,0+0+m*64≤(lvals B).length,m≤d,((lvals B).drop (0+0)).take (m*64)=lvals (av (((lvals B).drop (0+0)).take (m*64))),(av (((lvals B).drop (0+0)).take (m*64))).length=m,m≤4000000,bI (av (((lvals B).drop (0+0)).take (m*64))),0+0+m*65≤(ah (bq (av (((lvals B).drop (0+0)).take (m*64))))).length,0<m,Room Tryd.prog 33 m]:=by delta oU;kernel_rfl
theorem z (H:Nd→Nd→B32) (hH:H=hV) (E:B32) (hE':E=hE) (S:Nd→B32) (hS':S=hS) (s t:B32) (a:Option Addr) (B:List Lf) (m d:Nat) (ty2:TypeId) (g:Nat→SV):oU [0,1,2] Γ1 R1 0 6 (fill g 0 (M0 a m d )) (m0 s t B ty2) [(15,[.dyn]),(18,[.dyn])] (Mz a) (m0 s t B ty2) [0=0,0+0+m*64≤(lvals B).length,m≤d,((lvals B).drop (0+0)).take (m*64)=lvals (av (((lvals B).drop (0+0)).take (m*64))),(av (((lvals B).drop (0+0)).take (m*64))).length=m,m≤4000000,bI (av (((lvals B).drop (0+0)).take (m*64))),0+0+m*65≤(ah (bq (av (((lvals B).drop (0+0)).take (m*64))))).length,m=0]:=by delta oU;kernel_rfl
section
variable (H:Nd→Nd→B32) (hH:H=hV) (E:B32) (hE':E=hE) (S:Nd→B32) (hS':S=hS) (s t:B32) (a:Option Addr) (B:List Lf)
theorem b (m d:Nat) (ty2:TypeId) (vs:List Value) (k:Nat) (x:B32) (e:Int) (y:B32) (f:Int) (g:Nat→SV):oN [0,1,2,4,5] (Γ2 H hH E hE' S hS') 100 (eD 3 S2) (fill g 0 (M2 a k)) (m1 s t B ty2 vs k none) [(23,[.s (hsS (x,e))]),(28,[.s (hsS (y,f))])] .normal (M5 a e f) (mf s t B ty2 x y) [65=65,vs=ah (ak vs),(ak vs).length=k,k<4611686018427387904,hsS (E,0)=hsS (x,e),0+0+k*65≤(ah (bX (ak vs))).length,k≤k,((ah (bX (ak vs))).drop (0+0)).take (k*65)=ah (ak (((ah (bX (ak vs))).drop (0+0)).take (k*65))),(ak (((ah (bX (ak vs))).drop (0+0)).take (k*65))).length=k,k<bK,bg (ak (((ah (bX (ak vs))).drop (0+0)).take (k*65))),hsS (bO H E S (ak (((ah (bX (ak vs))).drop (0+0)).take (k*65))))=hsS (y,f)]:=by delta oN;kernel_rfl
theorem bz (ty2:TypeId) (x:B32) (e:Int) (y:B32) (f:Int) (g:Nat→SV):oN [0,1,2,3,4] (Γ2 H hH E hE' S hS') 100 (eD 3 S2) (fill g 0 (Mz a )) (m0 s t B ty2) [(23,[.s (hsS (x,e))]),(28,[.s (hsS (y,f))])] .normal (M5 a e f) (mf s t B ty2 x y) [hsS (E,0)=hsS (x,e),hsS (E,0)=hsS (y,f)]:=by delta oN;kernel_rfl
end
section
variable (s t:B32) (a:Option Addr) (B:List Lf) (ty2:TypeId) (x y:B32)
theorem t1 (f:Int) (g:Nat→SV):oX Γ1 300 T (fill g 0 (M5 a 1 f)) (mf s t B ty2 x y) [] .ret (MR a 1) (mo B ty2) []:=by delta oX;kernel_rfl
theorem t2 (g:Nat→SV):oX Γ1 300 T (fill g 0 (M5 a 0 1)) (mf s t B ty2 x y) [] .ret (MR a 1) (mo B ty2) []:=by delta oX;kernel_rfl
theorem t3 (g:Nat→SV):oX Γ1 300 T (fill g 0 (M5 a 0 0)) (mf s t B ty2 x y) [(41,[.b true])] .ret (MR a 3) (mo B ty2) [(!eqL x.to s.to)=true]:=by delta oX;kernel_rfl
theorem t4 (g:Nat→SV):oX Γ1 300 T (fill g 0 (M5 a 0 0)) (mf s t B ty2 x y) [(41,[.b false]),(45,[.b true])] .ret (MR a 3) (mo B ty2) [(!eqL x.to s.to)=false,(!eqL y.to t.to)=true]:=by delta oX;kernel_rfl
theorem t5 (g:Nat→SV):oX Γ1 300 T (fill g 0 (M5 a 0 0)) (mf s t B ty2 x y) [(41,[.b false]),(45,[.b false])] .ret (MR a 0) (mo B ty2) [(!eqL x.to s.to)=false,(!eqL y.to t.to)=false]:=by delta oX;kernel_rfl
end
theorem zr (a:Option Addr) (e:Int) (mm:Nat→Option Blk) (g:Nat→SV):eRes tys (fill g 0 (MR a e)) mm fn.results.toList=some [.a (aG .i64 e)]:=by kernel_rfl
theorem tail (H:Nd→Nd→B32) (hH:H=hV) (E:B32) (hE':E=hE) (S:Nd→B32) (hS':S=hS) (s t:B32) (a:Option Addr) (B:List Lf) (m d:Nat) (ty2:TypeId) (x y:B32 × Int) (hx:x.2=0∨x.2=1) (hy:y.2=0∨y.2=1) (g:Nat→SV):aF Tryd.prog GT 1 T (fill g 0 (M5 a x.2 y.2)) (mf s t B ty2 x.1 y.1) (aH tys fn (bJ (.o (.a (aG .i64 (jY x y s t)))) .none)):=by
 obtain⟨x,e⟩:=x
 obtain⟨y,f⟩:=y
 rcases hx with rfl | rfl
 ·rcases hy with rfl | rfl
  ·cases h1:eqL x.to s.to with
   | false=>
    refine Runs.au aj mixed (t3 s t a B ty2 x y g) ⟨by rw[h1];rfl,trivial⟩ (iR a B ty2 _) rfl fun g=>aH.ret (zr a _ _ g) ?_
    unfold jY;rw[h1];rfl
   | true=>
    cases h2:eqL y.to t.to with
    | false=>
     refine Runs.au aj mixed (t4 s t a B ty2 x y g) ⟨by rw[h1];rfl,by rw[h2];rfl,trivial⟩ (iR a B ty2 _) rfl fun g=>aH.ret (zr a _ _ g) ?_
     unfold jY;rw[h1,h2];rfl
    | true=>
     refine Runs.au aj mixed (t5 s t a B ty2 x y g) ⟨by rw[h1];rfl,by rw[h2];rfl,trivial⟩ (iR a B ty2 _) rfl fun g=>aH.ret (zr a _ _ g) ?_
     unfold jY;rw[h1,h2];rfl
  ·exact Runs.au aj mixed (t2 s t a B ty2 x y g) trivial (iR a B ty2 _) rfl fun g=>aH.ret (zr a _ _ g) rfl
 ·exact Runs.au aj mixed (t1 s t a B ty2 x y f g) trivial (iR a B ty2 _) rfl fun g=>aH.ret (zr a _ _ g) rfl
theorem back (H:Nd→Nd→B32) (hH:H=hV) (E:B32) (hE':E=hE) (S:Nd→B32) (hS':S=hS) (s t:B32) (a:Option Addr) (B:List Lf) (m d:Nat) (ty2:TypeId) (hm:B.length=m) (hd:m≤d) (hB:bI B) (hb:m≤4000000) (U:List Nd) (k:Nat) (hk':bg U) (hk2:U.length=k) (hk3:k≤4000000) (g:Nat→SV):aF Tryd.prog GT 1 S2 (fill g 0 (M2 a k)) (m1 s t B ty2 (ah U) k none) (aH tys fn (bJ (.o (.a (aG .i64 (jY (bO H E S []) (bO H E S (bX U)) s t)))) .none)):=by
 have dB:((lvals B).drop (0+0)).take (m*64)=lvals B:=dtl hm
 have lb:(lvals B).length=m*64:=by rw[←hm];exact bU B
 have lt:(bq B).length=m:=by rw[je,hm]
 have lz:(ah (bq B)).length=m*65:=by rw[bH,lt]
 have dT:((ah (bq B)).drop (0+0)).take (m*65)=ah (bq B):=dtn lt
 have hk:=iV hB
 have ls:(bX U).length=k:=by rw[jk,hk2]
 have dS:((ah (bX U)).drop (0+0)).take (k*65)=ah (bX U):=dtn ls
 have q:=b H hH E hE' S hS' s t a B m d ty2 (ah U) k (bO H E S []).1 (bO H E S []).2 (bO H E S (bX U)).1 (bO H E S (bX U)).2 g
 rw[bE,dS,bE] at q
 refine Runs.lJ aj mixed 3 [0,1,2,4,5] q ⟨rfl,rfl,hk2,by omega,rfl,by rw[bH,ls];omega,Nat.le_refl _,rfl,ls,by unfold bK;omega,hk'.sort,rfl,trivial⟩ (i5 s t a B ty2 _ _ _ _) (by kernel_rfl) fun g=> ?_
 exact tail H hH E hE' S hS' s t a B m d ty2 _ _ (mX H E S _) (mX H E S _) g
theorem backz (H:Nd→Nd→B32) (hH:H=hV) (E:B32) (hE':E=hE) (S:Nd→B32) (hS':S=hS) (s t:B32) (a:Option Addr) (B:List Lf) (m d:Nat) (ty2:TypeId) (hm:B.length=m) (hd:m≤d) (hB:bI B) (hb:m≤4000000) (g:Nat→SV):aF Tryd.prog GT 1 S2 (fill g 0 (Mz a)) (m0 s t B ty2) (aH tys fn (bJ (.o (.a (aG .i64 (jY (bO H E S []) (E,0) s t)))) .none)):=by
 have dB:((lvals B).drop (0+0)).take (m*64)=lvals B:=dtl hm
 have lb:(lvals B).length=m*64:=by rw[←hm];exact bU B
 have lt:(bq B).length=m:=by rw[je,hm]
 have lz:(ah (bq B)).length=m*65:=by rw[bH,lt]
 have dT:((ah (bq B)).drop (0+0)).take (m*65)=ah (bq B):=dtn lt
 have hk:=iV hB
 have q:=bz H hH E hE' S hS' s t a B ty2 (bO H E S []).1 (bO H E S []).2 E 0 g
 refine Runs.lJ aj mixed 3 [0,1,2,3,4] q ⟨rfl,rfl,trivial⟩ (i5 s t a B ty2 _ _ _ _) (by kernel_rfl) fun g=> ?_
 exact tail H hH E hE' S hS' s t a B m d ty2 (bO H E S []) (E,0) (mX H E S _) (.inl rfl) g
theorem run (H:Nd→Nd→B32) (hH:H=hV) (E:B32) (hE':E=hE) (S:Nd→B32) (hS':S=hS) (s t:B32) (a:Option Addr) (B:List Lf) (m d:Nat) (ty2:TypeId) (hm:B.length=m) (hd:m≤d) (hB:bI B) (hb:m≤4000000):aF Tryd.prog GT 1 body (aK fn [ay.enc s,ay.enc t,.o (.a (.v (.slice a 0 0))),.o (.a (.sld 0 0 0 m d))]) [⟨false,ty2,.prv (lvals B)⟩] (aH tys fn (bJ (.o (.a (aG .i64 (kH H E S s t [] B)))) .none)):=by
 have dB:((lvals B).drop (0+0)).take (m*64)=lvals B:=dtl hm
 have lb:(lvals B).length=m*64:=by rw[←hm];exact bU B
 have lt:(bq B).length=m:=by rw[je,hm]
 have lz:(ah (bq B)).length=m*65:=by rw[bH,lt]
 have dT:((ah (bq B)).drop (0+0)).take (m*65)=ah (bq B):=dtn lt
 have hk:=iV hB
 refine Runs.dz aj mixed 1 (s0 s t a B m d ty2) trivial (i0 s t a B m d ty2) rfl fun g=> ?_
 rw[suf_1]
 refine Runs.seq (Runs.region ?_)
 unfold kH
 rcases Nat.eq_zero_or_pos m with h1 | h1
 ·obtain rfl:B=[]:=List.eq_nil_of_length_eq_zero (by omega)
  have q:=z H hH E hE' S hS' s t a [] m d ty2 g
  rw[dB,bW] at q
  refine aS.aP aj 6 [0,1,2] q ⟨rfl,by omega,hd,rfl,hm,by omega,hB,by omega,h1,trivial⟩ (iz s t a [] ty2) rfl fun g=> ?_
  rw[nil0,kX,List.append_nil,show bX []=[] from List.eq_nil_of_length_eq_zero (jk []),show bO H E S []=(E,0) from rfl]
  exact aS.nil (backz H hH E hE' S hS' s t a [] m d ty2 hm hd hB hb g)
 ·have q:=nw.q H hH E hE' S hS' s t a B m d ty2 g
  rw[dB,bW,dT] at q
  refine aS.aP aj 6 [0,1,2,4] q ⟨rfl,by omega,hd,rfl,hm,by omega,hB,by omega,h1,mY m (by omega),trivial⟩ (i2 s t a B ty2 _ _ _ _) rfl fun g=> ?_
  rw[nil0,List.nil_append]
  exact aS.nil (back H hH E hE' S hS' s t a B m d ty2 hm hd hB hb (bq B) m hk lt (by omega) g)
end nw
namespace nn
def m0 (s t:B32):List Blk:=[⟨true,24,.lit (ay.row s)⟩,⟨true,24,.lit (ay.row t)⟩]
def mf (s t:B32) (x y:B32):List Blk:=[⟨true,24,.lit (ay.row s)⟩,⟨true,24,.lit (ay.row t)⟩,⟨true,24,.lit (ay.row x)⟩,⟨true,24,.lit (ay.row y)⟩]
def M0 (a:Option Addr) (b:Option Addr):List (Option SV):=aD 47 0 [(2,.o (.a (.v (.slice a 0 0)))),(3,.o (.a (.v (.slice b 0 0)))),(4,.o (.a (.ptr 0 0))),(5,.o (.a (.ptr 1 0)))]
theorem i0 (s t:B32) (a:Option Addr) (b:Option Addr):oI (M0 a b) (m0 s t):=by delta oI;kernel_rfl
def Mz (a:Option Addr):List (Option SV):=aD 47 0 [(2,.o (.a (.v (.slice a 0 0)))),(4,.o (.a (.ptr 0 0))),(5,.o (.a (.ptr 1 0))),(9,.o (.a (.v (.slice none 0 0))))]
theorem iz (s t:B32) (a:Option Addr):oI (Mz a) (m0 s t):=by delta oI;kernel_rfl
def M5 (a:Option Addr) (e f:Int):List (Option SV):=aD 47 0 [(4,.o (.a (.ptr 0 0))),(5,.o (.a (.ptr 1 0))),(10,.o (.a (.ptr 2 0))),(11,.o (.a (aG .i64 e))),(12,.o (.a (.ptr 3 0))),(13,.o (.a (aG .i64 f)))]
theorem i5 (s t:B32) (a:Option Addr) (e f:Int) (x y:B32):oI (M5 a e f) (mf s t x y):=by delta oI;kernel_rfl
def MR (a:Option Addr) (e:Int):List (Option SV):=aD 47 0 [(8,.o (.a (aG .i64 e)))]
def mo:List Blk:=[]
theorem iR (a:Option Addr) (e:Int):oI (MR a e) (mo):=by delta oI;kernel_rfl
theorem s0 (s t:B32) (a:Option Addr) (b:Option Addr):oX Γ1 300 (eD 1 body) (aK fn [ay.enc s,ay.enc t,.o (.a (.v (.slice a 0 0))),.o (.a (.v (.slice b 0 0)))]) [] [] .normal (M0 a b) (m0 s t) []:=by delta oX;kernel_rfl
theorem z (H:Nd→Nd→B32) (hH:H=hV) (E:B32) (hE':E=hE) (S:Nd→B32) (hS':S=hS) (s t:B32) (a:Option Addr) (b:Option Addr) (g:Nat→SV):oU [0,1] Γ1 R1 0 6 (fill g 0 (M0 a b )) (m0 s t) [(15,[.dyn]),(18,[.dyn])] (Mz a) (m0 s t) [0=0,0+0+0*65≤(ah (bq [])).length,0=0]:=by delta oU;kernel_rfl
theorem bz (H:Nd→Nd→B32) (hH:H=hV) (E:B32) (hE':E=hE) (S:Nd→B32) (hS':S=hS) (s t:B32) (a:Option Addr) (x:B32) (e:Int) (y:B32) (f:Int) (g:Nat→SV):oN [0,1,2,3] (Γ2 H hH E hE' S hS') 100 (eD 3 S2) (fill g 0 (Mz a )) (m0 s t) [(23,[.s (hsS (x,e))]),(28,[.s (hsS (y,f))])] .normal (M5 a e f) (mf s t x y) [hsS (E,0)=hsS (x,e),hsS (E,0)=hsS (y,f)]:=by delta oN;kernel_rfl
section
variable (s t:B32) (a:Option Addr)
theorem t1 (x y:B32) (f:Int) (g:Nat→SV):oX Γ1 300 T (fill g 0 (M5 a 1 f)) (mf s t x y) [] .ret (MR a 1) (mo) []:=by delta oX;kernel_rfl
theorem t2 (x y:B32) (g:Nat→SV):oX Γ1 300 T (fill g 0 (M5 a 0 1)) (mf s t x y) [] .ret (MR a 1) (mo) []:=by delta oX;kernel_rfl
theorem t3 (b:Option Addr) (x y:B32) (g:Nat→SV):oX Γ1 300 T (fill g 0 (M5 a 0 0)) (mf s t x y) [(41,[.b true])] .ret (MR a 3) (mo) [(!eqL x.to s.to)=true]:=by delta oX;kernel_rfl
theorem t4 (b:Option Addr) (x y:B32) (g:Nat→SV):oX Γ1 300 T (fill g 0 (M5 a 0 0)) (mf s t x y) [(41,[.b false]),(45,[.b true])] .ret (MR a 3) (mo) [(!eqL x.to s.to)=false,(!eqL y.to t.to)=true]:=by delta oX;kernel_rfl
theorem t5 (b:Option Addr) (x y:B32) (g:Nat→SV):oX Γ1 300 T (fill g 0 (M5 a 0 0)) (mf s t x y) [(41,[.b false]),(45,[.b false])] .ret (MR a 0) (mo) [(!eqL x.to s.to)=false,(!eqL y.to t.to)=false]:=by delta oX;kernel_rfl
end
theorem zr (a:Option Addr) (e:Int) (mm:Nat→Option Blk) (g:Nat→SV):eRes tys (fill g 0 (MR a e)) mm fn.results.toList=some [.a (aG .i64 e)]:=by kernel_rfl
theorem tail (H:Nd→Nd→B32) (hH:H=hV) (E:B32) (hE':E=hE) (S:Nd→B32) (hS':S=hS) (s t:B32) (a:Option Addr) (b:Option Addr) (x y:B32 × Int) (hx:x.2=0∨x.2=1) (hy:y.2=0∨y.2=1) (g:Nat→SV):aF Tryd.prog GT 0 T (fill g 0 (M5 a x.2 y.2)) (mf s t x.1 y.1) (aH tys fn (bJ (.o (.a (aG .i64 (jY x y s t)))) .none)):=by
 obtain⟨x,e⟩:=x
 obtain⟨y,f⟩:=y
 rcases hx with rfl | rfl
 ·rcases hy with rfl | rfl
  ·cases h1:eqL x.to s.to with
   | false=>
    refine Runs.au aj mixed (t3 s t a b x y g) ⟨by rw[h1];rfl,trivial⟩ (iR a _) rfl fun g=>aH.ret (zr a _ _ g) ?_
    unfold jY;rw[h1];rfl
   | true=>
    cases h2:eqL y.to t.to with
    | false=>
     refine Runs.au aj mixed (t4 s t a b x y g) ⟨by rw[h1];rfl,by rw[h2];rfl,trivial⟩ (iR a _) rfl fun g=>aH.ret (zr a _ _ g) ?_
     unfold jY;rw[h1,h2];rfl
    | true=>
     refine Runs.au aj mixed (t5 s t a b x y g) ⟨by rw[h1];rfl,by rw[h2];rfl,trivial⟩ (iR a _) rfl fun g=>aH.ret (zr a _ _ g) ?_
     unfold jY;rw[h1,h2];rfl
  ·exact Runs.au aj mixed (t2 s t a x y g) trivial (iR a _) rfl fun g=>aH.ret (zr a _ _ g) rfl
 ·exact Runs.au aj mixed (t1 s t a x y f g) trivial (iR a _) rfl fun g=>aH.ret (zr a _ _ g) rfl
theorem backz (H:Nd→Nd→B32) (hH:H=hV) (E:B32) (hE':E=hE) (S:Nd→B32) (hS':S=hS) (s t:B32) (a:Option Addr) (b:Option Addr) (g:Nat→SV):aF Tryd.prog GT 0 S2 (fill g 0 (Mz a)) (m0 s t) (aH tys fn (bJ (.o (.a (aG .i64 (jY (bO H E S []) (E,0) s t)))) .none)):=by
 have q:=bz H hH E hE' S hS' s t a (bO H E S []).1 (bO H E S []).2 E 0 g
 refine Runs.lJ aj mixed 3 [0,1,2,3] q ⟨rfl,rfl,trivial⟩ (i5 s t a _ _ _ _) (by kernel_rfl) fun g=> ?_
 exact tail H hH E hE' S hS' s t a b (bO H E S []) (E,0) (mX H E S _) (.inl rfl) g
theorem run (H:Nd→Nd→B32) (hH:H=hV) (E:B32) (hE':E=hE) (S:Nd→B32) (hS':S=hS) (s t:B32) (a:Option Addr) (b:Option Addr):aF Tryd.prog GT 0 body (aK fn [ay.enc s,ay.enc t,.o (.a (.v (.slice a 0 0))),.o (.a (.v (.slice b 0 0)))]) [] (aH tys fn (bJ (.o (.a (aG .i64 (kH H E S s t [] [])))) .none)):=by
 refine Runs.dz aj mixed 1 (s0 s t a b) trivial (i0 s t a b) rfl fun g=> ?_
 rw[suf_1]
 refine Runs.seq (Runs.region ?_)
 unfold kH
 refine aS.aP aj 6 [0,1] (z H hH E hE' S hS' s t a b g) ⟨rfl,by omega,rfl,trivial⟩ (iz s t a) rfl fun g=> ?_
 rw[nil0,kX,List.append_nil,show bX []=[] from List.eq_nil_of_length_eq_zero (jk []),show bO H E S []=(E,0) from rfl]
 exact aS.nil (backz H hH E hE' S hS' s t a b g)
end nn
noncomputable def spec (H:Nd→Nd→B32) (E:B32) (S:Nd→B32):List aU→Option (SV × dH × Cst)
 | [.val u,.val v,.winv _ vs n ty,.winv _ ws m ty2]=>match ay.dec u,ay.dec v with
  | some s,some t=>some (.o (.a (aG .i64 (kH H E S s t (ak vs) (av ws)))),.none,[vs=ah (ak vs),(ak vs).length=n,bg (ak vs),ws=lvals (av ws),(av ws).length=m,bI (av ws),n+m≤4000000])
  | _,_=>none
 | [.val u,.val v,.val (.o (.a (.v (.slice a 0 0)))),.winv _ ws m ty2]=>match ay.dec u,ay.dec v with
  | some s,some t=>some (.o (.a (aG .i64 (kH H E S s t [] (av ws)))),.none,[ws=lvals (av ws),(av ws).length=m,bI (av ws),m≤4000000])
  | _,_=>none
 | [.val u,.val v,.val (.o (.a (.v (.slice a 0 0)))),.val (.o (.a (.v (.slice b 0 0))))]=>match ay.dec u,ay.dec v with
  | some s,some t=>some (.o (.a (aG .i64 (kH H E S s t [] []))),.none,[])
  | _,_=>none
 | _=>none
noncomputable def con (H:Nd→Nd→B32) (hH:H=hV) (E:B32) (hE':E=hE) (S:Nd→B32) (hS':S=hS):Con Tryd.prog GT:=Con.parts aj 46 fn Tryd.func46 (by kernel_rfl) (c:=body) (by kernel_rfl) [.val,.val,.winv 65,.winv 64] (spec H E S)
 (fun ps r e p h hp=>by
  unfold spec at h
  split at h
  ·split at h<;>cases h
   exact⟨rfl,fun b hb=>by simp only[bf,aU.blk,List.append_nil,List.nil_append,List.cons_append,List.mem_cons,List.not_mem_nil,or_false] at hb;rcases hb with rfl | rfl<;>rfl⟩
  ·split at h<;>cases h
   exact⟨rfl,fun b hb=>by simp only[bf,aU.blk,List.append_nil,List.nil_append,List.mem_singleton] at hb;rw[hb]⟩
  ·split at h<;>cases h
   exact⟨rfl,fun b hb=>by simp[bf,aU.blk] at hb⟩
  ·cases h)
 (fun ps r e p cap h hp hi=>by
  unfold spec at h
  split at h
  ·rename_i u v s1 vs n ty s2 ws m ty2
   split at h<;>cases h
   rename_i s t k1 k2
   have e1:=ay.ok _ _ k1
   have e2:=ay.ok _ _ k2
   subst e1 e2
   obtain⟨p1,p2,p3,q1,q2,q3,hb,_⟩:=hp
   obtain⟨_,_,⟨_,hc1⟩,⟨_,hc2⟩,_⟩:=hi
   rcases Nat.eq_zero_or_pos n with h0 | h0
   ·have q:=zw.run H hH E hE' S hS' s t (ak vs) n (cap 0) ty (av ws) m (cap 1) ty2 p2 hc1 p3 q2 hc2 q3 hb h0
    rw[←p1,←q1] at q
    exact q
   ·have q:=pw.run H hH E hE' S hS' s t (ak vs) n (cap 0) ty (av ws) m (cap 1) ty2 p2 hc1 p3 q2 hc2 q3 hb h0
    rw[←p1,←q1] at q
    exact q
  ·rename_i u v a s2 ws m ty2
   split at h<;>cases h
   rename_i s t k1 k2
   have e1:=ay.ok _ _ k1
   have e2:=ay.ok _ _ k2
   subst e1 e2
   obtain⟨q1,q2,q3,hb,_⟩:=hp
   obtain⟨_,_,_,⟨_,hc2⟩,_⟩:=hi
   have q:=nw.run H hH E hE' S hS' s t a (av ws) m (cap 0) ty2 q2 hc2 q3 hb
   rw[←q1] at q
   exact q
  ·rename_i u v a b
   split at h<;>cases h
   rename_i s t k1 k2
   have e1:=ay.ok _ _ k1
   have e2:=ay.ok _ _ k2
   subst e1 e2
   exact nn.run H hH E hE' S hS' s t a b
  ·cases h)
noncomputable def spec0 (H:Nd→Nd→B32) (E:B32) (S:Nd→B32):List aU→Option (SV × dH × Cst)
 | [.val u,.val v,.val (.o (.a (.v (.slice a 0 0)))),.val (.o (.a (.v (.slice b 0 0))))]=>match ay.dec u,ay.dec v with
  | some s,some t=>some (.o (.a (aG .i64 (kH H E S s t [] []))),.none,[])
  | _,_=>none
 | _=>none
noncomputable def con0 (H:Nd→Nd→B32) (hH:H=hV) (E:B32) (hE':E=hE) (S:Nd→B32) (hS':S=hS):Con Tryd.prog GT:=Con.parts aj 46 fn Tryd.func46 (by kernel_rfl) (c:=body) (by kernel_rfl) [.val,.val,.winv 65,.winv 64] (spec0 H E S)
 (fun ps r e p h hp=>by
  unfold spec0 at h
  split at h
  ·split at h<;>cases h
   exact⟨rfl,fun b hb=>by simp[bf,aU.blk] at hb⟩
  ·cases h)
 (fun ps r e p cap h hp hi=>by
  unfold spec0 at h
  split at h
  ·rename_i u v a b
   split at h<;>cases h
   rename_i s t k1 k2
   have e1:=ay.ok _ _ k1
   have e2:=ay.ok _ _ k2
   subst e1 e2
   exact nn.run H hH E hE' S hS' s t a b
  ·cases h)
end gck
namespace rwi
def k2 (l:List Nd) (ty:TypeId) (x:Nd):List Blk:=[⟨false,ty,.prv (ah l)⟩,⟨true,33,.lit (Nd.row x)⟩]
def kr (l:List Nd) (ty:TypeId) (us:List Value) (u:Nat):List Blk:=[⟨false,ty,.prv (ah l)⟩,⟨true,33,.grv 65 us u none⟩]
def K0 (n c:Nat) (a:Option Addr) (own:Bool):List (Option SV):=aD 65 0 [(0,.o (.a (.sld 0 0 0 n c))),(1,.o (.a (.v (.slice a 0 0)))),(2,.o (.a (.v (.bool own)))),(7,.o (.a (.ptr 1 0))),(8,.o (.a (.v (.bool false))))]
def K1 (n c:Nat) (a:Option Addr) (own:Bool):List (Option SV):=aD 65 0 [(0,.o (.a (.sld 0 0 0 n c))),(1,.o (.a (.v (.slice a 0 0)))),(2,.o (.a (.v (.bool own)))),(7,.o (.a (.ptr 1 0))),(8,.o (.a (.v (.bool false)))),(18,.o (.a (aG .i64 0))),(19,.o (.a (aG .i64 0)))]
def KR (a:Option Addr) (r:Nat):List (Option SV):=aD 65 0 [(6,.o (.a (.slg 1 r)))]
theorem k0i (l:List Nd) (n c:Nat) (ty:TypeId) (a:Option Addr) (own:Bool) (x:Nd):oI (K0 n c a own) (k2 l ty x):=by delta oI;kernel_rfl
theorem k1i (l:List Nd) (n c:Nat) (ty:TypeId) (a:Option Addr) (own:Bool) (x:Nd):oI (K1 n c a own) (k2 l ty x):=by delta oI;kernel_rfl
theorem kri (l:List Nd) (ty:TypeId) (a:Option Addr) (us:List Value) (u r:Nat):oI (KR a r) (kr l ty us u):=by delta oI;kernel_rfl
section
variable (H:Nd→Nd→B32) (hH:H=hV) (l:List Nd) (n c:Nat) (ty:TypeId) (a:Option Addr) (own:Bool) (x:Nd)
theorem k0:oX (ΓB H hH) 100 (eD 4 body) (aK fn [.o (.a (.sld 0 0 0 n c)),.o (.a (.v (.slice a 0 0))),.o (.a (.v (.bool own)))]) [⟨false,ty,.prv (ah l)⟩] [(14,[.b false]),(16,[.s (cNd.enc x)])] .normal (K0 n c a own) (k2 l ty x) [((n:Int)==0)=false,0+0+n*65≤(ah l).length,n≤c,((ah l).drop (0+0)).take (n*65)=ah (ak (((ah l).drop (0+0)).take (n*65))),(ak (((ah l).drop (0+0)).take (n*65))).length=n,n<bK,1≤n,bg (ak (((ah l).drop (0+0)).take (n*65))),bC (ak (((ah l).drop (0+0)).take (n*65)))=true,cNd.enc (bD H (ak (((ah l).drop (0+0)).take (n*65))))=cNd.enc x]:=by delta oX;kernel_rfl
theorem ka1 (g:Nat→SV):oX (ΓB H hH) 100 A1 (fill g 0 (K0 n c a own )) (k2 l ty x) [] .normal (K1 n c a own) (k2 l ty x) []:=by delta oX;kernel_rfl
theorem kou (g:Nat→SV):oX (ΓB H hH) 100 L (fill g 0 (K1 n c a own )) (k2 l ty x) [] (.exit 0) (K0 n c a own) (k2 l ty x) []:=by delta oX;kernel_rfl
theorem kr1 (g:Nat→SV):oN [0,2] (ΓB H hH) 100 C10 (fill g 0 (K0 n c a own )) (k2 l ty x) [(43,[.dyn])] .ret (KR a 1) (kr l ty x.vals 1) [65=1*65]:=by delta oN;kernel_rfl
end
theorem kz (l:List Nd) (ty:TypeId) (a:Option Addr) (us:List Value) (u r:Nat) (g:Nat→SV):eRes tys (fill g 0 (KR a r)) (fun k=>(kr l ty us u)[k]?) fn.results.toList=some [.a (.slg 1 r)]:=by kernel_rfl
theorem runL (H:Nd→Nd→B32) (hH:H=hV) (l:List Nd) (n c:Nat) (ty:TypeId) (a:Option Addr) (own:Bool) (hn:l.length=n) (h0:0<n) (hm:n<4000001) (hc:n≤c) (hok:bg l) (hap:bC l=true):aF Tryd.prog GT 1 body (aK fn [.o (.a (.sld 0 0 0 n c)),.o (.a (.v (.slice a 0 0))),.o (.a (.v (.bool own)))]) [⟨false,ty,.prv (ah l)⟩] (aH tys fn (bJ (.o (.a (.slg 0 (bT H own l []).length))) (.new 33 (.grv 65 (ah (bT H own l [])) (bT H own l []).length none)))):=by
 have hl:(ah l).length=n*65:=by rw[←hn];exact bH l
 obtain⟨y1,y2⟩:=ow n hn
 refine Runs.dz aj mixed 4 (k0 H hH l n c ty a own (bD H l)) ⟨by rw[←Bool.not_eq_true,beq_iff_eq];omega,by omega,hc,y1,by rw[y2];exact hn,by unfold bK;omega,h0,by rw[y2];exact hok,by rw[y2];exact hap,by rw[y2],trivial⟩ (k0i l n c ty a own _) rfl fun g=> ?_
 rw[dJ]
 refine Runs.seq (Runs.seq (Runs.au aj mixed (ka1 H hH l n c ty a own _ g) trivial (k1i l n c ty a own _) rfl fun g=> ?_))
 refine Runs.block ?_
 refine Runs.dA (fun(_:Unit)=>K1 n c a own ) (fun _=>k2 l ty (bD H l)) (fun _=>True) (fun _=>0) ?_ () trivial g
 rintro _ g _
 refine Runs.au aj mixed (kou H hH l n c ty a own _ g) trivial (k0i l n c ty a own _) rfl fun g=> ?_
 show aF _ _ _ _ _ _ _
 refine Runs.seq (Runs.aP aj mixed [0,2] (kr1 H hH l n c ty a own (bD H l) g) ⟨rfl,trivial⟩ (kri l ty a _ _ _) rfl fun g=> ?_)
 rw[witV_one H own [] (by omega) (.inl rfl)]
 exact aH.ret (kz l ty a _ _ _ g) ⟨1,rfl,by rw[kQ];rfl⟩
noncomputable def specL (H:Nd→Nd→B32):List aU→Option (SV × dH × Cst)
 | [.winv _ vs n ty,.val (.o (.a (.v (.slice a 0 0)))),.val (.o (.a (.v (.bool own))))]=>some (.o (.a (.slg 0 (bT H own (ak vs) []).length)),.new 33 (.grv 65 (ah (bT H own (ak vs) [])) (bT H own (ak vs) []).length none),[vs=ah (ak vs),(ak vs).length=n,0<n,n<4000001,bg (ak vs),bC (ak vs)=true])
 | _=>none
noncomputable def cL (H:Nd→Nd→B32) (hH:H=hV):Con Tryd.prog GT:=Con.parts aj 68 fn Tryd.func68 (by kernel_rfl) (c:=body) (by kernel_rfl) [.winv 65,.winv 32,.val] (specL H)
 (fun ps r e p h hp=>by
  unfold specL at h
  split at h<;>cases h
  exact⟨rfl,fun b hb=>by simp only[bf,aU.blk,List.append_nil,List.nil_append,List.mem_singleton] at hb;rw[hb]⟩)
 (fun ps r e p cap h hp hi=>by
  unfold specL at h
  split at h<;>cases h
  rename_i s vs n ty a own
  obtain⟨p1,p2,p3,p4,p5,p6,_⟩:=hp
  have q:=runL H hH (ak vs) n (cap 0) ty a own p2 p3 p4 hi.1.2 p5 p6
  rw[←p1] at q
  exact q)
end rwi
noncomputable def stR (H:Nd→Nd→B32) (A B:List Lf):List Nd:=bT H false (dU A A.length) (jR B)
theorem dup_ne {l:List Lf} (h:bI l) (hd:fK l l.length=false):(l.map bP).Pairwise NeP:=by
 have hp:=qY l l.length (Nat.le_refl _)
 rw[qL] at hp
 exact ne_perm hp ((uf h _ (Nat.le_refl _) hd).imp fun h=>h.ne)
theorem dup_left {A B:List Lf} (hA:bI A) (hB:bI B) (hd:fK (A++B) (A++B).length=false):fK A A.length=false:=
 qg (qU (dup_ne (hA.app hB) hd)) _ (Nat.le_refl _)
theorem lK {z:Lf} (hz:LOk z) {x:B32} (hx:BOk x):holdsV (bP z) x=true↔z.lab=x:=by
 rw[kS (leaf_good hz)]
 constructor
 ·intro h
  have h:256≤bN z.lab x:=h
  exact vG hz.1 hx (Nat.le_antisymm (oQ _ _) h)
 ·rintro rfl
  show 256≤bN z.lab z.lab
  rw[nY]
  exact Nat.le_refl _
theorem cross {A B:List Lf} (h:((A++B).map bP).Pairwise NeP) {z y:Lf} (hz:z∈A) (hy:y∈B):z.lab≠y.lab:=by
 rw[List.map_append,List.pairwise_append] at h
 exact h.2.2 _ (List.mem_map_of_mem hz) _ (List.mem_map_of_mem hy)
theorem not_held {A B:List Lf} (hA:bI A) (hB:bI B) (h:((A++B).map bP).Pairwise NeP) {z:Lf} (hz:z∈A):∀x∈jR B,holdsV (bP z) x=false:=fun x hx=>by
 obtain⟨y,hy,rfl⟩:=List.mem_map.1 hx
 rw[←Bool.not_eq_true,lK (hA z hz) (hB y hy).1]
 exact cross h hz hy
theorem st_ne {H:Nd→Nd→B32} (hH:∀a b,BOk (H a b)) {A B:List Lf} (hA:bI A) (hB:bI B) (h0:0<A.length) (hd:fK (A++B) (A++B).length=false):stR H A B≠[]:=fun e=>by
 have hne:=dup_ne (hA.app hB) hd
 have hdA:=dup_left hA hB hd
 have hAp:=rnd_ap hA hdA
 have hl:=pE A A.length
 have hr:dU A A.length≠[]:=by rw[←List.length_pos_iff,hl];exact h0
 have W:=o7 H hH false hAp hr (jR B)
 obtain⟨n,hn⟩:=List.exists_mem_of_ne_nil _ hr
 obtain⟨z,hz,rfl⟩:=mem_rnd hn
 unfold stR at e
 rcases W.all _ hn with⟨p,hp,_⟩ | ⟨_,x,hx,hh⟩
 ·rw[e] at hp;cases hp
 ·rw[not_held hA hB hne hz x hx] at hh;cases hh
end Go.Proofs.YtdccehmekkcheaaDoor
