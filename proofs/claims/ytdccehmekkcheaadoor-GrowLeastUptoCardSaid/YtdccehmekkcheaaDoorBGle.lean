/- GrowLeast: the check, both loops: facts and run. -/
import Derived.Test.YtdccehmekkcheaaDoorBFo
import Derived.Test.YtdccehmekkcheaaDoorBLeP
namespace Go.Proofs.YtdccehmekkcheaaDoor
open Go Go.Eng Go.RowKit
set_option linter.unusedVariables false
set_option linter.unusedSimpArgs false
set_option maxRecDepth 100000
namespace lglt
noncomputable def C5:Code:=cs1 (csuf 4 body)
noncomputable def A7:Code:=cs1 (cs1 (csuf 5 body))
noncomputable def L1:Code:=cL (cB (cs2 (cs1 (csuf 5 body))))
noncomputable def A17:Code:=cs1 (cs1 (csuf 6 body))
noncomputable def L3:Code:=cL (cB (cs2 (cs1 (csuf 6 body))))
noncomputable def D:Code:=csuf 7 body
noncomputable def X1:Code:=cB (cs1 (csuf 2 L1))
noncomputable def R16:Code:=cs2 (csuf 2 L1)
noncomputable def L2:Code:=cL (cB (csuf 2 X1))
noncomputable def X5:Code:=cB (cs1 (csuf 2 L3))
noncomputable def R29:Code:=cs2 (csuf 2 L3)
noncomputable def R21:Code:=cs1 (cs1 (csuf 2 X5))
noncomputable def L4:Code:=cL (cB (cs2 (cs1 (csuf 2 X5))))
noncomputable def C27:Code:=cs2 (csuf 2 X5)
theorem body2:csuf 2 body= .seq R3 (.seq R4 (.seq C5 (.seq (.seq A7 (.block 0 (.loop L1))) (.seq (.seq A17 (.block 4 (.loop L3))) D)))):=by kernel_rfl
theorem sL1:csuf 2 L1= .seq (.block 1 X1) R16:=by kernel_rfl
theorem sX1:csuf 2 X1= .block 2 (.loop L2):=by kernel_rfl
theorem sL3:csuf 2 L3= .seq (.block 5 X5) R29:=by kernel_rfl
theorem sX5:csuf 2 X5= .seq (.seq R21 (.block 6 (.loop L4))) C27:=by kernel_rfl
def MR:List (Option SV):=aD 103 0 [(4,.o (.a (.v (.bool true))))]
theorem zr (g:Nat→SV) (mm:Nat→Option Blk):eRes tys (fill g 0 MR) mm fn.results.toList=some [.a (bool1 true)]:=by kernel_rfl
noncomputable def Γl:Cons Tryd.prog GT:=[rap.con,rholds.con]
namespace s
def MB:List (Option SV):=aD 103 0 [(5,.o (.a (.v (.slice none 0 0)))),(6,.o (.a (.v (.slice none 0 0)))),(7,.o (.a (.v (.slice none 0 0))))]
theorem iB (A:List Lf) (ty:TypeId) (B:List Lf) (ty2:TypeId):oI (MB) (ww.m5 A ty B ty2):=by delta oI;kernel_rfl
def M1 (i:Int):List (Option SV):=aD 103 0 [(5,.o (.a (.v (.slice none 0 0)))),(6,.o (.a (.v (.slice none 0 0)))),(7,.o (.a (.v (.slice none 0 0)))),(45,.o (.a (int1 .i64 0))),(46,.o (.a (int1 .i64 i)))]
theorem i1 (A:List Lf) (ty:TypeId) (B:List Lf) (ty2:TypeId) (i:Int):oI (M1 i) (ww.m5 A ty B ty2):=by delta oI;kernel_rfl
def N1 (j:Int):List (Option SV):=aD 103 0 [(5,.o (.a (.v (.slice none 0 0)))),(6,.o (.a (.v (.slice none 0 0)))),(7,.o (.a (.v (.slice none 0 0)))),(67,.o (.a (int1 .i64 0))),(68,.o (.a (int1 .i64 j)))]
section
variable (A:List Lf) (ty:TypeId) (B:List Lf) (ty2:TypeId)
theorem j1 (j:Int):oI (N1 j) (ww.m5 A ty B ty2):=by delta oI;kernel_rfl
theorem c5 (g:Nat→SV):oX Γl 300 C5 (fill g 0 (ww.M5 )) (ww.m5 A ty B ty2) [(34,[.s (ay.enc true)])] .normal (MB) (ww.m5 A ty B ty2) [ay.enc true=ay.enc true]:=by delta oX;kernel_rfl
theorem a7 (g:Nat→SV):oX Γl 300 A7 (fill g 0 (MB )) (ww.m5 A ty B ty2) [] .normal (M1 0) (ww.m5 A ty B ty2) []:=by delta oX;kernel_rfl
theorem a17 (g:Nat→SV):oX Γl 300 A17 (fill g 0 (MB )) (ww.m5 A ty B ty2) [] .normal (N1 0) (ww.m5 A ty B ty2) []:=by delta oX;kernel_rfl
theorem o1 (g:Nat→SV):oX Γl 300 L1 (fill g 0 (M1 0)) (ww.m5 A ty B ty2) [] (.exit 0) (MB) (ww.m5 A ty B ty2) []:=by delta oX;kernel_rfl
theorem o3 (g:Nat→SV):oX Γl 300 L3 (fill g 0 (N1 0)) (ww.m5 A ty B ty2) [] (.exit 4) (MB) (ww.m5 A ty B ty2) []:=by delta oX;kernel_rfl
theorem fin (g:Nat→SV):oN [0,1] Γl 100 D (fill g 0 (MB )) (ww.m5 A ty B ty2) [] .ret MR (ww.m0 A ty B ty2) []:=by delta oN;kernel_rfl
end
theorem last (H:Nd→Nd→B32) (hH:H=hV) (A:List Lf) (n c:Nat) (ty:TypeId) (B:List Lf) (m d:Nat) (ty2:TypeId) (X Y:List Lf) (T:List Nd) (g:Nat→SV):aB Tryd.prog GT 2 (.seq C5 (.seq (.seq A7 (.block 0 (.loop L1))) (.seq (.seq A17 (.block 4 (.loop L3))) D))) (fill g 0 (ww.M5 )) (ww.m5 A ty B ty2 ) (aF tys fn (aZ (ay.enc true) .none)):=by
 refine Runs.seq (Runs.av aj mixed (c5 A ty B ty2 g) ⟨rfl,trivial⟩ (iB A ty B ty2 ) rfl fun g=> ?_)
 refine Runs.seq (Runs.seq (Runs.av aj mixed (a7 A ty B ty2 g) trivial (i1 A ty B ty2 0) rfl fun g=> ?_))
 refine Runs.block ?_
 refine Runs.loopX (fun(_:Unit)=>M1 0) (fun _=>ww.m5 A ty B ty2 ) (fun _=>True) (fun _=>0) ?_ () trivial g
 rintro _ g _
 refine Runs.av aj mixed (o1 A ty B ty2 g) trivial (iB A ty B ty2) rfl fun g=> ?_
 show aB _ _ _ _ _ _ _
 refine Runs.seq (Runs.seq (Runs.av aj mixed (a17 A ty B ty2 g) trivial (j1 A ty B ty2 0) rfl fun g=> ?_))
 refine Runs.block ?_
 refine Runs.loopX (fun(_:Unit)=>N1 0) (fun _=>ww.m5 A ty B ty2 ) (fun _=>True) (fun _=>0) ?_ () trivial g
 rintro _ g _
 refine Runs.av aj mixed (o3 A ty B ty2 g) trivial (iB A ty B ty2) rfl fun g=> ?_
 show aB _ _ _ _ _ _ _
 exact Runs.aK aj mixed [0,1] (fin A ty B ty2 g) trivial (by kernel_rfl) rfl fun g=>aF.ret (zr g _) rfl
end s
namespace sy
def MB (Y:List Lf):List (Option SV):=aD 103 0 [(5,.o (.a (.v (.slice none 0 0)))),(6,.o (.a (.slg 2 Y.length))),(7,.o (.a (.v (.slice none 0 0))))]
theorem iB (A:List Lf) (ty:TypeId) (B:List Lf) (ty2:TypeId) (Y:List Lf):oI (MB Y) (ww.m5y A ty B ty2 Y):=by delta oI;kernel_rfl
def M1 (Y:List Lf) (i:Int):List (Option SV):=aD 103 0 [(5,.o (.a (.v (.slice none 0 0)))),(6,.o (.a (.slg 2 Y.length))),(7,.o (.a (.v (.slice none 0 0)))),(45,.o (.a (int1 .i64 0))),(46,.o (.a (int1 .i64 i)))]
theorem i1 (A:List Lf) (ty:TypeId) (B:List Lf) (ty2:TypeId) (Y:List Lf) (i:Int):oI (M1 Y i) (ww.m5y A ty B ty2 Y):=by delta oI;kernel_rfl
def N1 (Y:List Lf) (j:Int):List (Option SV):=aD 103 0 [(5,.o (.a (.v (.slice none 0 0)))),(6,.o (.a (.slg 2 Y.length))),(7,.o (.a (.v (.slice none 0 0)))),(67,.o (.a (int1 .i64 0))),(68,.o (.a (int1 .i64 j)))]
section
variable (A:List Lf) (ty:TypeId) (B:List Lf) (ty2:TypeId) (Y:List Lf)
theorem j1 (j:Int):oI (N1 Y j) (ww.m5y A ty B ty2 Y):=by delta oI;kernel_rfl
theorem c5 (g:Nat→SV):oX Γl 300 C5 (fill g 0 (ww.M5y Y )) (ww.m5y A ty B ty2 Y) [(34,[.s (ay.enc true)])] .normal (MB Y) (ww.m5y A ty B ty2 Y) [ay.enc true=ay.enc true]:=by delta oX;kernel_rfl
theorem a7 (g:Nat→SV):oX Γl 300 A7 (fill g 0 (MB Y )) (ww.m5y A ty B ty2 Y) [] .normal (M1 Y 0) (ww.m5y A ty B ty2 Y) []:=by delta oX;kernel_rfl
theorem a17 (g:Nat→SV):oX Γl 300 A17 (fill g 0 (MB Y )) (ww.m5y A ty B ty2 Y) [] .normal (N1 Y 0) (ww.m5y A ty B ty2 Y) []:=by delta oX;kernel_rfl
theorem o1 (g:Nat→SV):oX Γl 300 L1 (fill g 0 (M1 Y 0)) (ww.m5y A ty B ty2 Y) [] (.exit 0) (MB Y) (ww.m5y A ty B ty2 Y) []:=by delta oX;kernel_rfl
theorem o3 (g:Nat→SV):oX Γl 300 L3 (fill g 0 (N1 Y 0)) (ww.m5y A ty B ty2 Y) [] (.exit 4) (MB Y) (ww.m5y A ty B ty2 Y) []:=by delta oX;kernel_rfl
theorem fin (g:Nat→SV):oN [0,1] Γl 100 D (fill g 0 (MB Y )) (ww.m5y A ty B ty2 Y) [(94,[.b true])] .ret MR (ww.m0 A ty B ty2) [decide ((Y.length:Int)>0)=true]:=by delta oN;kernel_rfl
end
theorem last (H:Nd→Nd→B32) (hH:H=hV) (A:List Lf) (n c:Nat) (ty:TypeId) (B:List Lf) (m d:Nat) (ty2:TypeId) (X Y:List Lf) (T:List Nd) (h0:0<Y.length) (g:Nat→SV):aB Tryd.prog GT 2 (.seq C5 (.seq (.seq A7 (.block 0 (.loop L1))) (.seq (.seq A17 (.block 4 (.loop L3))) D))) (fill g 0 (ww.M5y Y )) (ww.m5y A ty B ty2 Y ) (aF tys fn (aZ (ay.enc true) .none)):=by
 refine Runs.seq (Runs.av aj mixed (c5 A ty B ty2 Y g) ⟨rfl,trivial⟩ (iB A ty B ty2 Y ) rfl fun g=> ?_)
 refine Runs.seq (Runs.seq (Runs.av aj mixed (a7 A ty B ty2 Y g) trivial (i1 A ty B ty2 Y 0) rfl fun g=> ?_))
 refine Runs.block ?_
 refine Runs.loopX (fun(_:Unit)=>M1 Y 0) (fun _=>ww.m5y A ty B ty2 Y ) (fun _=>True) (fun _=>0) ?_ () trivial g
 rintro _ g _
 refine Runs.av aj mixed (o1 A ty B ty2 Y g) trivial (iB A ty B ty2 Y) rfl fun g=> ?_
 show aB _ _ _ _ _ _ _
 refine Runs.seq (Runs.seq (Runs.av aj mixed (a17 A ty B ty2 Y g) trivial (j1 A ty B ty2 Y 0) rfl fun g=> ?_))
 refine Runs.block ?_
 refine Runs.loopX (fun(_:Unit)=>N1 Y 0) (fun _=>ww.m5y A ty B ty2 Y ) (fun _=>True) (fun _=>0) ?_ () trivial g
 rintro _ g _
 refine Runs.av aj mixed (o3 A ty B ty2 Y g) trivial (iB A ty B ty2 Y) rfl fun g=> ?_
 show aB _ _ _ _ _ _ _
 exact Runs.aK aj mixed [0,1] (fin A ty B ty2 Y g) ⟨decide_eq_true (by omega),trivial⟩ (by kernel_rfl) rfl fun g=>aF.ret (zr g _) rfl
end sy
namespace sx
def MB (X:List Lf) (T:List Nd):List (Option SV):=aD 103 0 [(5,.o (.a (.slg 2 X.length))),(6,.o (.a (.v (.slice none 0 0)))),(7,.o (.a (.slg 3 T.length)))]
theorem iB (A:List Lf) (ty:TypeId) (B:List Lf) (ty2:TypeId) (X:List Lf) (T:List Nd):oI (MB X T) (ww.m5x A ty B ty2 X T):=by delta oI;kernel_rfl
def M1 (X:List Lf) (T:List Nd) (i:Int):List (Option SV):=aD 103 0 [(5,.o (.a (.slg 2 X.length))),(6,.o (.a (.v (.slice none 0 0)))),(7,.o (.a (.slg 3 T.length))),(45,.o (.a (int1 .i64 T.length))),(46,.o (.a (int1 .i64 i)))]
theorem i1 (A:List Lf) (ty:TypeId) (B:List Lf) (ty2:TypeId) (X:List Lf) (T:List Nd) (i:Int):oI (M1 X T i) (ww.m5x A ty B ty2 X T):=by delta oI;kernel_rfl
def N1 (X:List Lf) (T:List Nd) (j:Int):List (Option SV):=aD 103 0 [(5,.o (.a (.slg 2 X.length))),(6,.o (.a (.v (.slice none 0 0)))),(7,.o (.a (.slg 3 T.length))),(67,.o (.a (int1 .i64 X.length))),(68,.o (.a (int1 .i64 j)))]
section
variable (A:List Lf) (ty:TypeId) (B:List Lf) (ty2:TypeId) (X:List Lf) (T:List Nd)
theorem j1 (j:Int):oI (N1 X T j) (ww.m5x A ty B ty2 X T):=by delta oI;kernel_rfl
theorem c5 (g:Nat→SV):oX Γl 300 C5 (fill g 0 (ww.M5x X T )) (ww.m5x A ty B ty2 X T) [(34,[.s (ay.enc true)]),(42,[.b false])] .normal (MB X T) (ww.m5x A ty B ty2 X T) [0+0+T.length*65≤(ah T).length,T.length≤T.length,((ah T).drop (0+0)).take (T.length*65)=ah (au (((ah T).drop (0+0)).take (T.length*65))),(au (((ah T).drop (0+0)).take (T.length*65))).length=T.length,T.length<bg,aT (au (((ah T).drop (0+0)).take (T.length*65))),ay.enc (aL (au (((ah T).drop (0+0)).take (T.length*65))))=ay.enc true,decide ((T.length:Int)>X.length)=false]:=by delta oX;kernel_rfl
theorem a7 (g:Nat→SV):oX Γl 300 A7 (fill g 0 (MB X T )) (ww.m5x A ty B ty2 X T) [] .normal (M1 X T 0) (ww.m5x A ty B ty2 X T) []:=by delta oX;kernel_rfl
theorem a17 (g:Nat→SV):oX Γl 300 A17 (fill g 0 (MB X T )) (ww.m5x A ty B ty2 X T) [] .normal (N1 X T 0) (ww.m5x A ty B ty2 X T) []:=by delta oX;kernel_rfl
end
def M2 (X:List Lf) (T:List Nd) (i k:Int):List (Option SV):=aD 103 0 [(5,.o (.a (.slg 2 X.length))),(6,.o (.a (.v (.slice none 0 0)))),(7,.o (.a (.slg 3 T.length))),(9,.o (.a (int1 .i64 i))),(45,.o (.a (int1 .i64 T.length))),(46,.o (.a (int1 .i64 i))),(50,.o (.a (int1 .i64 0))),(51,.o (.a (int1 .i64 k)))]
section
variable (A:List Lf) (ty:TypeId) (B:List Lf) (ty2:TypeId) (X:List Lf) (T:List Nd)
theorem i2 (i k:Int):oI (M2 X T i k) (ww.m5x A ty B ty2 X T):=by delta oI;kernel_rfl
theorem o1 (i:Int) (g:Nat→SV):oX Γl 300 L1 (fill g 0 (M1 X T i)) (ww.m5x A ty B ty2 X T) [(47,[.b false])] (.exit 0) (MB X T) (ww.m5x A ty B ty2 X T) [decide (i<T.length)=false]:=by delta oX;kernel_rfl
theorem h1_ (i:Int) (g:Nat→SV):oX Γl 300 (cpre 2 L1) (fill g 0 (M1 X T i)) (ww.m5x A ty B ty2 X T) [(47,[.b true])] .normal (M1 X T i) (ww.m5x A ty B ty2 X T) [decide (i<T.length)=true]:=by delta oX;kernel_rfl
theorem x1 (i:Int) (g:Nat→SV):oX Γl 300 (cpre 2 X1) (fill g 0 (M1 X T i)) (ww.m5x A ty B ty2 X T) [] .normal (M2 X T i 0) (ww.m5x A ty B ty2 X T) []:=by delta oX;kernel_rfl
theorem o2 (i:Int) (g:Nat→SV):oX Γl 300 L2 (fill g 0 (M2 X T i 0)) (ww.m5x A ty B ty2 X T) [] (.exit 2) (M1 X T i) (ww.m5x A ty B ty2 X T) []:=by delta oX;kernel_rfl
end
theorem e1 (A:List Lf) (n:Nat) (ty:TypeId) (B:List Lf) (ty2:TypeId) (X:List Lf) (T:List Nd) (i i':Int) (g:Nat→SV):oX Γl 300 R16 (fill g 0 (M1 X T i)) (ww.m5x A ty B ty2 X T) [(65,[.n i'])] .normal (M1 X T i') (ww.m5x A ty B ty2 X T) [IntKind.i64.wrap (i+1)=i']:=by delta oX;kernel_rfl
def N0 (X:List Lf) (T:List Nd) (j:Int):List (Option SV):=aD 103 0 [(5,.o (.a (.slg 2 X.length))),(6,.o (.a (.v (.slice none 0 0)))),(7,.o (.a (.slg 3 T.length))),(11,.o (.a (int1 .i64 j))),(12,.o (.a (int1 .i64 0))),(67,.o (.a (int1 .i64 X.length))),(68,.o (.a (int1 .i64 j)))]
theorem j0 (A:List Lf) (ty:TypeId) (B:List Lf) (ty2:TypeId) (X:List Lf) (T:List Nd) (j:Int):oI (N0 X T j) (ww.m5x A ty B ty2 X T):=by delta oI;kernel_rfl
def N2 (X:List Lf) (T:List Nd) (j q i:Int):List (Option SV):=aD 103 0 [(5,.o (.a (.slg 2 X.length))),(6,.o (.a (.v (.slice none 0 0)))),(7,.o (.a (.slg 3 T.length))),(11,.o (.a (int1 .i64 j))),(12,.o (.a (int1 .i64 q))),(67,.o (.a (int1 .i64 X.length))),(68,.o (.a (int1 .i64 j))),(72,.o (.a (int1 .i64 T.length))),(73,.o (.a (int1 .i64 i)))]
theorem j2 (A:List Lf) (ty:TypeId) (B:List Lf) (ty2:TypeId) (X:List Lf) (T:List Nd) (j q i:Int):oI (N2 X T j q i) (ww.m5x A ty B ty2 X T):=by delta oI;kernel_rfl
def N3 (X:List Lf) (T:List Nd) (j q:Int):List (Option SV):=aD 103 0 [(5,.o (.a (.slg 2 X.length))),(6,.o (.a (.v (.slice none 0 0)))),(7,.o (.a (.slg 3 T.length))),(12,.o (.a (int1 .i64 q))),(67,.o (.a (int1 .i64 X.length))),(68,.o (.a (int1 .i64 j)))]
section
variable (A:List Lf) (ty:TypeId) (B:List Lf) (ty2:TypeId) (X:List Lf) (T:List Nd)
theorem j3 (j q:Int):oI (N3 X T j q) (ww.m5x A ty B ty2 X T):=by delta oI;kernel_rfl
theorem o3 (j:Int) (g:Nat→SV):oX Γl 300 L3 (fill g 0 (N1 X T j)) (ww.m5x A ty B ty2 X T) [(69,[.b false])] (.exit 4) (MB X T) (ww.m5x A ty B ty2 X T) [decide (j<X.length)=false]:=by delta oX;kernel_rfl
theorem h3 (j:Int) (g:Nat→SV):oX Γl 300 (cpre 2 L3) (fill g 0 (N1 X T j)) (ww.m5x A ty B ty2 X T) [(69,[.b true])] .normal (N1 X T j) (ww.m5x A ty B ty2 X T) [decide (j<X.length)=true]:=by delta oX;kernel_rfl
theorem x5 (j:Int) (g:Nat→SV):oX Γl 300 (cpre 2 X5) (fill g 0 (N1 X T j)) (ww.m5x A ty B ty2 X T) [] .normal (N0 X T j) (ww.m5x A ty B ty2 X T) []:=by delta oX;kernel_rfl
theorem a21 (j:Int) (g:Nat→SV):oX Γl 300 R21 (fill g 0 (N0 X T j)) (ww.m5x A ty B ty2 X T) [] .normal (N2 X T j 0 0) (ww.m5x A ty B ty2 X T) []:=by delta oX;kernel_rfl
end
theorem t4t (A:List Lf) (n:Nat) (ty:TypeId) (B:List Lf) (ty2:TypeId) (X:List Lf) (T:List Nd) (j q q' i i':Int) (p:Nd) (x:B32) (g:Nat→SV):oX Γl 300 L4 (fill g 0 (N2 X T j q i)) (ww.m5x A ty B ty2 X T) [(74,[.b true]),(79,[.ds (cNd.enc p)]),(84,[.ds (cB32.enc x)]),(85,[.s (ay.enc true)]),(87,[.n q']),(88,[.n i'])] .normal (N2 X T j q' i') (ww.m5x A ty B ty2 X T) [decide (i<T.length)=true,0≤i,i<T.length,0+offI 0 i 65+65≤(ah T).length,SV.o (.g (aI (ah T) (0+offI 0 i 65) 65))=cNd.enc p,0≤j,j<X.length,0+offI 0 j 64+32≤(lvals X).length,SV.o (.g (aI (lvals X) (0+offI 0 j 64) 32))=cB32.enc x,BOk p.pre,BOk x,ay.enc (holdsV p x)=ay.enc true,IntKind.i64.wrap (q+1)=q',IntKind.i64.wrap (i+1)=i']:=by delta oX;kernel_rfl
theorem t4f (A:List Lf) (n:Nat) (ty:TypeId) (B:List Lf) (ty2:TypeId) (X:List Lf) (T:List Nd) (j q i i':Int) (p:Nd) (x:B32) (g:Nat→SV):oX Γl 300 L4 (fill g 0 (N2 X T j q i)) (ww.m5x A ty B ty2 X T) [(74,[.b true]),(79,[.ds (cNd.enc p)]),(84,[.ds (cB32.enc x)]),(85,[.s (ay.enc false)]),(88,[.n i'])] .normal (N2 X T j q i') (ww.m5x A ty B ty2 X T) [decide (i<T.length)=true,0≤i,i<T.length,0+offI 0 i 65+65≤(ah T).length,SV.o (.g (aI (ah T) (0+offI 0 i 65) 65))=cNd.enc p,0≤j,j<X.length,0+offI 0 j 64+32≤(lvals X).length,SV.o (.g (aI (lvals X) (0+offI 0 j 64) 32))=cB32.enc x,BOk p.pre,BOk x,ay.enc (holdsV p x)=ay.enc false,IntKind.i64.wrap (i+1)=i']:=by delta oX;kernel_rfl
section
variable (A:List Lf) (ty:TypeId) (B:List Lf) (ty2:TypeId) (X:List Lf) (T:List Nd)
theorem o4 (j q i:Int) (g:Nat→SV):oX Γl 300 L4 (fill g 0 (N2 X T j q i)) (ww.m5x A ty B ty2 X T) [(74,[.b false])] (.exit 6) (N3 X T j q) (ww.m5x A ty B ty2 X T) [decide (i<T.length)=false]:=by delta oX;kernel_rfl
theorem c27 (j:Int) (g:Nat→SV):oX Γl 300 C27 (fill g 0 (N3 X T j 1)) (ww.m5x A ty B ty2 X T) [] .normal (N1 X T j) (ww.m5x A ty B ty2 X T) []:=by delta oX;kernel_rfl
end
theorem e3 (A:List Lf) (n:Nat) (ty:TypeId) (B:List Lf) (ty2:TypeId) (X:List Lf) (T:List Nd) (j j':Int) (g:Nat→SV):oX Γl 300 R29 (fill g 0 (N1 X T j)) (ww.m5x A ty B ty2 X T) [(91,[.n j'])] .normal (N1 X T j') (ww.m5x A ty B ty2 X T) [IntKind.i64.wrap (j+1)=j']:=by delta oX;kernel_rfl
theorem fin (A:List Lf) (ty:TypeId) (B:List Lf) (ty2:TypeId) (X:List Lf) (T:List Nd) (g:Nat→SV):oN [0,1] Γl 100 D (fill g 0 (MB X T )) (ww.m5x A ty B ty2 X T) [(101,[.b true])] .ret MR (ww.m0 A ty B ty2) [((T.length:Int)==if (1:Int)<(X.length:Int) then 1 else (X.length:Int))=true]:=by delta oN;kernel_rfl
theorem last (H:Nd→Nd→B32) (hH:H=hV) (A:List Lf) (n c:Nat) (ty:TypeId) (B:List Lf) (m d:Nat) (ty2:TypeId) (X Y:List Lf) (T:List Nd) (hX:AllL X) (hT:aT T) (hA:aL T=true) (hl:T.length≤X.length) (hb:X.length≤4000000) (hc:∀k,k<X.length→cntV T (X.getD k zl).lab T.length=1) (h1:T.length=1) (hx0:0<X.length) (g:Nat→SV):aB Tryd.prog GT 2 (.seq C5 (.seq (.seq A7 (.block 0 (.loop L1))) (.seq (.seq A17 (.block 4 (.loop L3))) D))) (fill g 0 (ww.M5x X T )) (ww.m5x A ty B ty2 X T ) (aF tys fn (aZ (ay.enc true) .none)):=by
 have dT:((ah T).drop (0+0)).take (T.length*65)=ah T:=dtn rfl
 have lt:(ah T).length=T.length*65:=bn _
 have q:=c5 A ty B ty2 X T g
 rw[dT,aU] at q
 refine Runs.seq (Runs.av aj mixed q ⟨by omega,Nat.le_refl _,rfl,rfl,by unfold bg;omega,hT,by rw[hA],decide_eq_false (by omega),trivial⟩ (iB A ty B ty2 X T ) rfl fun g=> ?_)
 have w64:∀i:Nat,i<4000000→IntKind.i64.wrap ((i:Int)+1)=((i+1:Nat):Int):=fun i hi=>by rw[IntKind.wrap_i64];omega
 have nT:∀i:Nat,i<T.length→0≤(i:Int)∧(i:Int)<T.length∧0+offI 0 (i:Int) 65+65≤(ah T).length∧SV.o (.g (aI (ah T) (0+offI 0 (i:Int) 65) 65))=cNd.enc (T.getD i zn)∧BOk (T.getD i zn).pre:=fun i hi=>by
  obtain⟨h1,h2⟩:=ld_node (l:=T) rfl hi
  exact⟨by omega,by omega,h1,h2,(hT.at hi).1⟩
 have nL:∀V:List Lf,AllL V→∀i:Nat,i<V.length→0≤(i:Int)∧(i:Int)<V.length∧0+offI 0 (i:Int) 64+32≤(lvals V).length∧SV.o (.g (aI (lvals V) (0+offI 0 (i:Int) 64) 32))=cB32.enc (V.getD i zl).lab∧BOk (V.getD i zl).lab:=fun V hV i hi=>by
  obtain⟨h1,h2⟩:=dst.ld_llab V hi
  exact⟨by omega,by omega,h1,h2,(hV.at hi).1⟩
 refine Runs.seq (Runs.seq (Runs.av aj mixed (a7 A ty B ty2 X T g) trivial (i1 A ty B ty2 X T 0) rfl fun g=> ?_))
 refine Runs.block ?_
 refine Runs.loopX (fun(i:Nat)=>M1 X T (i:Int)) (fun _=>ww.m5x A ty B ty2 X T ) (fun i=>i≤T.length) (fun i=>T.length-i) ?_ 0 (Nat.zero_le _) g
 rintro i g hi
 by_cases hit:i=T.length
 ·refine Runs.av aj mixed (o1 A ty B ty2 X T (i:Int) g) ⟨decide_eq_false (by omega),trivial⟩ (iB A ty B ty2 X T) rfl fun g=> ?_
  show aB _ _ _ _ _ _ _
  refine Runs.seq (Runs.seq (Runs.av aj mixed (a17 A ty B ty2 X T g) trivial (j1 A ty B ty2 X T 0) rfl fun g=> ?_))
  refine Runs.block ?_
  refine Runs.loopX (fun(j:Nat)=>N1 X T (j:Int)) (fun _=>ww.m5x A ty B ty2 X T ) (fun j=>j≤X.length) (fun j=>X.length-j) ?_ 0 (Nat.zero_le _) g
  rintro j g hj
  by_cases hjx:j=X.length
  ·refine Runs.av aj mixed (o3 A ty B ty2 X T (j:Int) g) ⟨decide_eq_false (by omega),trivial⟩ (iB A ty B ty2 X T) rfl fun g=> ?_
   show aB _ _ _ _ _ _ _
   exact Runs.aK aj mixed [0,1] (fin A ty B ty2 X T g) ⟨by rw[show(if (1:Int)<(X.length:Int) then (1:Int) else (X.length:Int))=1 by split<;>omega,h1];rfl,trivial⟩ (by kernel_rfl) rfl fun g=>aF.ret (zr g _) rfl
  ·have hj':j<X.length:=by omega
   refine Runs.bq aj mixed 2 (h3 A ty B ty2 X T (j:Int) g) ⟨decide_eq_true (by omega),trivial⟩ (j1 A ty B ty2 X T _) rfl fun g=> ?_
   rw[sL3]
   refine Runs.seq (Runs.block ?_)
   refine Runs.bq aj mixed 2 (x5 A ty B ty2 X T (j:Int) g) trivial (j0 A ty B ty2 X T _) rfl fun g=> ?_
   rw[sX5]
   refine Runs.seq (Runs.seq (Runs.av aj mixed (a21 A ty B ty2 X T (j:Int) g) trivial (j2 A ty B ty2 X T _ _ _) rfl fun g=> ?_))
   refine Runs.block ?_
   refine Runs.loopX (fun(i:Nat)=>N2 X T (j:Int) (cntV T (X.getD j zl).lab i:Int) (i:Int)) (fun _=>ww.m5x A ty B ty2 X T ) (fun i=>i≤T.length) (fun i=>T.length-i) ?_ 0 (Nat.zero_le _) g
   rintro i g hi
   by_cases hie:i=T.length
   ·refine Runs.av aj mixed (o4 A ty B ty2 X T (j:Int) _ (i:Int) g) ⟨decide_eq_false (by omega),trivial⟩ (j3 A ty B ty2 X T _ _) rfl fun g=> ?_
    show aB _ _ _ _ _ _ _
    have e1:((cntV T (X.getD j zl).lab i:Nat):Int)=1:=by rw[hie,hc j hj'];rfl
    rw[e1]
    refine Runs.av aj mixed (c27 A ty B ty2 X T (j:Int) g) trivial (j1 A ty B ty2 X T _) rfl fun g=> ?_
    show aB _ _ _ _ _ _ _
    exact Runs.av aj mixed (e3 A n ty B ty2 X T (j:Int) ((j+1:Nat):Int) g) ⟨w64 j (by omega),trivial⟩ (j1 A ty B ty2 X T _) rfl fun g=>⟨j+1,g,rfl,rfl,by omega,by omega⟩
   ·have hi':i<T.length:=by omega
    obtain⟨a1,a2,a3,a4,a5⟩:=nT i hi'
    obtain⟨b1,b2,b3,b4,b5⟩:=nL X hX j hj'
    have hcl:=cnt_le T (X.getD j zl).lab i
    cases hh:holdsV (T.getD i zn) (X.getD j zl).lab with
    | true=>
     have e2:cntV T (X.getD j zl).lab (i+1)=cntV T (X.getD j zl).lab i+1:=by rw[cntV,hh,cond_true]
     exact Runs.av aj mixed (t4t A n ty B ty2 X T (j:Int) _ ((cntV T (X.getD j zl).lab (i+1):Nat):Int) (i:Int) ((i+1:Nat):Int) _ _ g) ⟨decide_eq_true a2,a1,a2,a3,a4,b1,b2,b3,b4,a5,b5,by rw[hh],by rw[e2];exact w64 _ (by omega),w64 i (by omega),trivial⟩ (j2 A ty B ty2 X T _ _ _) rfl fun g=>⟨i+1,g,rfl,rfl,by omega,by omega⟩
    | false=>
     have e2:cntV T (X.getD j zl).lab (i+1)=cntV T (X.getD j zl).lab i:=by rw[cntV,hh,cond_false]
     exact Runs.av aj mixed (t4f A n ty B ty2 X T (j:Int) _ (i:Int) ((i+1:Nat):Int) _ _ g) ⟨decide_eq_true a2,a1,a2,a3,a4,b1,b2,b3,b4,a5,b5,by rw[hh],w64 i (by omega),trivial⟩ (j2 A ty B ty2 X T _ _ _) rfl fun g=>⟨i+1,g,by rw[e2],rfl,by omega,by omega⟩
 ·have hi':i<T.length:=by omega
  refine Runs.bq aj mixed 2 (h1_ A ty B ty2 X T (i:Int) g) ⟨decide_eq_true (by omega),trivial⟩ (i1 A ty B ty2 X T _) rfl fun g=> ?_
  rw[sL1]
  refine Runs.seq (Runs.block ?_)
  refine Runs.bq aj mixed 2 (x1 A ty B ty2 X T (i:Int) g) trivial (i2 A ty B ty2 X T _ _) rfl fun g=> ?_
  rw[sX1]
  refine Runs.block ?_
  refine Runs.loopX (fun(_:Unit)=>M2 X T (i:Int) 0) (fun _=>ww.m5x A ty B ty2 X T ) (fun _=>True) (fun _=>0) ?_ () trivial g
  rintro _ g _
  refine Runs.av aj mixed (o2 A ty B ty2 X T (i:Int) g) trivial (i1 A ty B ty2 X T _) rfl fun g=> ?_
  show aB _ _ _ _ _ _ _
  exact Runs.av aj mixed (e1 A n ty B ty2 X T (i:Int) ((i+1:Nat):Int) g) ⟨w64 i (by omega),trivial⟩ (i1 A ty B ty2 X T _) rfl fun g=>⟨i+1,g,rfl,rfl,by omega,by omega⟩
end sx
namespace sxy
def MB (X Y:List Lf) (T:List Nd):List (Option SV):=aD 103 0 [(5,.o (.a (.slg 2 X.length))),(6,.o (.a (.slg 3 Y.length))),(7,.o (.a (.slg 4 T.length)))]
theorem iB (A:List Lf) (ty:TypeId) (B:List Lf) (ty2:TypeId) (X Y:List Lf) (T:List Nd):oI (MB X Y T) (ww.m5xy A ty B ty2 X Y T):=by delta oI;kernel_rfl
def M1 (X Y:List Lf) (T:List Nd) (i:Int):List (Option SV):=aD 103 0 [(5,.o (.a (.slg 2 X.length))),(6,.o (.a (.slg 3 Y.length))),(7,.o (.a (.slg 4 T.length))),(45,.o (.a (int1 .i64 T.length))),(46,.o (.a (int1 .i64 i)))]
theorem i1 (A:List Lf) (ty:TypeId) (B:List Lf) (ty2:TypeId) (X Y:List Lf) (T:List Nd) (i:Int):oI (M1 X Y T i) (ww.m5xy A ty B ty2 X Y T):=by delta oI;kernel_rfl
def N1 (X Y:List Lf) (T:List Nd) (j:Int):List (Option SV):=aD 103 0 [(5,.o (.a (.slg 2 X.length))),(6,.o (.a (.slg 3 Y.length))),(7,.o (.a (.slg 4 T.length))),(67,.o (.a (int1 .i64 X.length))),(68,.o (.a (int1 .i64 j)))]
section
variable (A:List Lf) (ty:TypeId) (B:List Lf) (ty2:TypeId) (X Y:List Lf) (T:List Nd)
theorem j1 (j:Int):oI (N1 X Y T j) (ww.m5xy A ty B ty2 X Y T):=by delta oI;kernel_rfl
theorem c5 (g:Nat→SV):oX Γl 300 C5 (fill g 0 (ww.M5xy X Y T )) (ww.m5xy A ty B ty2 X Y T) [(34,[.s (ay.enc true)]),(42,[.b false])] .normal (MB X Y T) (ww.m5xy A ty B ty2 X Y T) [0+0+T.length*65≤(ah T).length,T.length≤T.length,((ah T).drop (0+0)).take (T.length*65)=ah (au (((ah T).drop (0+0)).take (T.length*65))),(au (((ah T).drop (0+0)).take (T.length*65))).length=T.length,T.length<bg,aT (au (((ah T).drop (0+0)).take (T.length*65))),ay.enc (aL (au (((ah T).drop (0+0)).take (T.length*65))))=ay.enc true,decide ((T.length:Int)>X.length)=false]:=by delta oX;kernel_rfl
theorem a7 (g:Nat→SV):oX Γl 300 A7 (fill g 0 (MB X Y T )) (ww.m5xy A ty B ty2 X Y T) [] .normal (M1 X Y T 0) (ww.m5xy A ty B ty2 X Y T) []:=by delta oX;kernel_rfl
theorem a17 (g:Nat→SV):oX Γl 300 A17 (fill g 0 (MB X Y T )) (ww.m5xy A ty B ty2 X Y T) [] .normal (N1 X Y T 0) (ww.m5xy A ty B ty2 X Y T) []:=by delta oX;kernel_rfl
end
def M2 (X Y:List Lf) (T:List Nd) (i k:Int):List (Option SV):=aD 103 0 [(5,.o (.a (.slg 2 X.length))),(6,.o (.a (.slg 3 Y.length))),(7,.o (.a (.slg 4 T.length))),(9,.o (.a (int1 .i64 i))),(45,.o (.a (int1 .i64 T.length))),(46,.o (.a (int1 .i64 i))),(50,.o (.a (int1 .i64 Y.length))),(51,.o (.a (int1 .i64 k)))]
section
variable (A:List Lf) (ty:TypeId) (B:List Lf) (ty2:TypeId) (X Y:List Lf) (T:List Nd)
theorem i2 (i k:Int):oI (M2 X Y T i k) (ww.m5xy A ty B ty2 X Y T):=by delta oI;kernel_rfl
theorem o1 (i:Int) (g:Nat→SV):oX Γl 300 L1 (fill g 0 (M1 X Y T i)) (ww.m5xy A ty B ty2 X Y T) [(47,[.b false])] (.exit 0) (MB X Y T) (ww.m5xy A ty B ty2 X Y T) [decide (i<T.length)=false]:=by delta oX;kernel_rfl
theorem h1 (i:Int) (g:Nat→SV):oX Γl 300 (cpre 2 L1) (fill g 0 (M1 X Y T i)) (ww.m5xy A ty B ty2 X Y T) [(47,[.b true])] .normal (M1 X Y T i) (ww.m5xy A ty B ty2 X Y T) [decide (i<T.length)=true]:=by delta oX;kernel_rfl
theorem x1 (i:Int) (g:Nat→SV):oX Γl 300 (cpre 2 X1) (fill g 0 (M1 X Y T i)) (ww.m5xy A ty B ty2 X Y T) [] .normal (M2 X Y T i 0) (ww.m5xy A ty B ty2 X Y T) []:=by delta oX;kernel_rfl
end
theorem t2 (A:List Lf) (n:Nat) (ty:TypeId) (B:List Lf) (ty2:TypeId) (X Y:List Lf) (T:List Nd) (i k k':Int) (p:Nd) (x:B32) (g:Nat→SV):oX Γl 300 L2 (fill g 0 (M2 X Y T i k)) (ww.m5xy A ty B ty2 X Y T) [(52,[.b true]),(57,[.ds (cNd.enc p)]),(62,[.ds (cB32.enc x)]),(63,[.s (ay.enc false)]),(64,[.n k'])] .normal (M2 X Y T i k') (ww.m5xy A ty B ty2 X Y T) [decide (k<Y.length)=true,0≤i,i<T.length,0+offI 0 i 65+65≤(ah T).length,SV.o (.g (aI (ah T) (0+offI 0 i 65) 65))=cNd.enc p,0≤k,k<Y.length,0+offI 0 k 64+32≤(lvals Y).length,SV.o (.g (aI (lvals Y) (0+offI 0 k 64) 32))=cB32.enc x,BOk p.pre,BOk x,ay.enc (holdsV p x)=ay.enc false,IntKind.i64.wrap (k+1)=k']:=by delta oX;kernel_rfl
theorem o2 (A:List Lf) (ty:TypeId) (B:List Lf) (ty2:TypeId) (X Y:List Lf) (T:List Nd) (i k:Int) (g:Nat→SV):oX Γl 300 L2 (fill g 0 (M2 X Y T i k)) (ww.m5xy A ty B ty2 X Y T) [(52,[.b false])] (.exit 2) (M1 X Y T i) (ww.m5xy A ty B ty2 X Y T) [decide (k<Y.length)=false]:=by delta oX;kernel_rfl
theorem e1 (A:List Lf) (n:Nat) (ty:TypeId) (B:List Lf) (ty2:TypeId) (X Y:List Lf) (T:List Nd) (i i':Int) (g:Nat→SV):oX Γl 300 R16 (fill g 0 (M1 X Y T i)) (ww.m5xy A ty B ty2 X Y T) [(65,[.n i'])] .normal (M1 X Y T i') (ww.m5xy A ty B ty2 X Y T) [IntKind.i64.wrap (i+1)=i']:=by delta oX;kernel_rfl
def N0 (X Y:List Lf) (T:List Nd) (j:Int):List (Option SV):=aD 103 0 [(5,.o (.a (.slg 2 X.length))),(6,.o (.a (.slg 3 Y.length))),(7,.o (.a (.slg 4 T.length))),(11,.o (.a (int1 .i64 j))),(12,.o (.a (int1 .i64 0))),(67,.o (.a (int1 .i64 X.length))),(68,.o (.a (int1 .i64 j)))]
theorem j0 (A:List Lf) (ty:TypeId) (B:List Lf) (ty2:TypeId) (X Y:List Lf) (T:List Nd) (j:Int):oI (N0 X Y T j) (ww.m5xy A ty B ty2 X Y T):=by delta oI;kernel_rfl
def N2 (X Y:List Lf) (T:List Nd) (j q i:Int):List (Option SV):=aD 103 0 [(5,.o (.a (.slg 2 X.length))),(6,.o (.a (.slg 3 Y.length))),(7,.o (.a (.slg 4 T.length))),(11,.o (.a (int1 .i64 j))),(12,.o (.a (int1 .i64 q))),(67,.o (.a (int1 .i64 X.length))),(68,.o (.a (int1 .i64 j))),(72,.o (.a (int1 .i64 T.length))),(73,.o (.a (int1 .i64 i)))]
theorem j2 (A:List Lf) (ty:TypeId) (B:List Lf) (ty2:TypeId) (X Y:List Lf) (T:List Nd) (j q i:Int):oI (N2 X Y T j q i) (ww.m5xy A ty B ty2 X Y T):=by delta oI;kernel_rfl
def N3 (X Y:List Lf) (T:List Nd) (j q:Int):List (Option SV):=aD 103 0 [(5,.o (.a (.slg 2 X.length))),(6,.o (.a (.slg 3 Y.length))),(7,.o (.a (.slg 4 T.length))),(12,.o (.a (int1 .i64 q))),(67,.o (.a (int1 .i64 X.length))),(68,.o (.a (int1 .i64 j)))]
section
variable (A:List Lf) (ty:TypeId) (B:List Lf) (ty2:TypeId) (X Y:List Lf) (T:List Nd)
theorem j3 (j q:Int):oI (N3 X Y T j q) (ww.m5xy A ty B ty2 X Y T):=by delta oI;kernel_rfl
theorem o3 (j:Int) (g:Nat→SV):oX Γl 300 L3 (fill g 0 (N1 X Y T j)) (ww.m5xy A ty B ty2 X Y T) [(69,[.b false])] (.exit 4) (MB X Y T) (ww.m5xy A ty B ty2 X Y T) [decide (j<X.length)=false]:=by delta oX;kernel_rfl
theorem h3 (j:Int) (g:Nat→SV):oX Γl 300 (cpre 2 L3) (fill g 0 (N1 X Y T j)) (ww.m5xy A ty B ty2 X Y T) [(69,[.b true])] .normal (N1 X Y T j) (ww.m5xy A ty B ty2 X Y T) [decide (j<X.length)=true]:=by delta oX;kernel_rfl
theorem x5 (j:Int) (g:Nat→SV):oX Γl 300 (cpre 2 X5) (fill g 0 (N1 X Y T j)) (ww.m5xy A ty B ty2 X Y T) [] .normal (N0 X Y T j) (ww.m5xy A ty B ty2 X Y T) []:=by delta oX;kernel_rfl
theorem a21 (j:Int) (g:Nat→SV):oX Γl 300 R21 (fill g 0 (N0 X Y T j)) (ww.m5xy A ty B ty2 X Y T) [] .normal (N2 X Y T j 0 0) (ww.m5xy A ty B ty2 X Y T) []:=by delta oX;kernel_rfl
end
theorem t4t (A:List Lf) (n:Nat) (ty:TypeId) (B:List Lf) (ty2:TypeId) (X Y:List Lf) (T:List Nd) (j q q' i i':Int) (p:Nd) (x:B32) (g:Nat→SV):oX Γl 300 L4 (fill g 0 (N2 X Y T j q i)) (ww.m5xy A ty B ty2 X Y T) [(74,[.b true]),(79,[.ds (cNd.enc p)]),(84,[.ds (cB32.enc x)]),(85,[.s (ay.enc true)]),(87,[.n q']),(88,[.n i'])] .normal (N2 X Y T j q' i') (ww.m5xy A ty B ty2 X Y T) [decide (i<T.length)=true,0≤i,i<T.length,0+offI 0 i 65+65≤(ah T).length,SV.o (.g (aI (ah T) (0+offI 0 i 65) 65))=cNd.enc p,0≤j,j<X.length,0+offI 0 j 64+32≤(lvals X).length,SV.o (.g (aI (lvals X) (0+offI 0 j 64) 32))=cB32.enc x,BOk p.pre,BOk x,ay.enc (holdsV p x)=ay.enc true,IntKind.i64.wrap (q+1)=q',IntKind.i64.wrap (i+1)=i']:=by delta oX;kernel_rfl
theorem t4f (A:List Lf) (n:Nat) (ty:TypeId) (B:List Lf) (ty2:TypeId) (X Y:List Lf) (T:List Nd) (j q i i':Int) (p:Nd) (x:B32) (g:Nat→SV):oX Γl 300 L4 (fill g 0 (N2 X Y T j q i)) (ww.m5xy A ty B ty2 X Y T) [(74,[.b true]),(79,[.ds (cNd.enc p)]),(84,[.ds (cB32.enc x)]),(85,[.s (ay.enc false)]),(88,[.n i'])] .normal (N2 X Y T j q i') (ww.m5xy A ty B ty2 X Y T) [decide (i<T.length)=true,0≤i,i<T.length,0+offI 0 i 65+65≤(ah T).length,SV.o (.g (aI (ah T) (0+offI 0 i 65) 65))=cNd.enc p,0≤j,j<X.length,0+offI 0 j 64+32≤(lvals X).length,SV.o (.g (aI (lvals X) (0+offI 0 j 64) 32))=cB32.enc x,BOk p.pre,BOk x,ay.enc (holdsV p x)=ay.enc false,IntKind.i64.wrap (i+1)=i']:=by delta oX;kernel_rfl
section
variable (A:List Lf) (ty:TypeId) (B:List Lf) (ty2:TypeId) (X Y:List Lf) (T:List Nd)
theorem o4 (j q i:Int) (g:Nat→SV):oX Γl 300 L4 (fill g 0 (N2 X Y T j q i)) (ww.m5xy A ty B ty2 X Y T) [(74,[.b false])] (.exit 6) (N3 X Y T j q) (ww.m5xy A ty B ty2 X Y T) [decide (i<T.length)=false]:=by delta oX;kernel_rfl
theorem c27 (j:Int) (g:Nat→SV):oX Γl 300 C27 (fill g 0 (N3 X Y T j 1)) (ww.m5xy A ty B ty2 X Y T) [] .normal (N1 X Y T j) (ww.m5xy A ty B ty2 X Y T) []:=by delta oX;kernel_rfl
end
theorem e3 (A:List Lf) (n:Nat) (ty:TypeId) (B:List Lf) (ty2:TypeId) (X Y:List Lf) (T:List Nd) (j j':Int) (g:Nat→SV):oX Γl 300 R29 (fill g 0 (N1 X Y T j)) (ww.m5xy A ty B ty2 X Y T) [(91,[.n j'])] .normal (N1 X Y T j') (ww.m5xy A ty B ty2 X Y T) [IntKind.i64.wrap (j+1)=j']:=by delta oX;kernel_rfl
theorem fin (A:List Lf) (ty:TypeId) (B:List Lf) (ty2:TypeId) (X Y:List Lf) (T:List Nd) (g:Nat→SV):oN [0,1] Γl 100 D (fill g 0 (MB X Y T )) (ww.m5xy A ty B ty2 X Y T) [(94,[.b true])] .ret MR (ww.m0 A ty B ty2) [decide ((Y.length:Int)>0)=true]:=by delta oN;kernel_rfl
theorem last (H:Nd→Nd→B32) (hH:H=hV) (A:List Lf) (n c:Nat) (ty:TypeId) (B:List Lf) (m d:Nat) (ty2:TypeId) (X Y:List Lf) (T:List Nd) (hX:AllL X) (hT:aT T) (hA:aL T=true) (hl:T.length≤X.length) (hb:X.length≤4000000) (hc:∀k,k<X.length→cntV T (X.getD k zl).lab T.length=1) (h0:0<Y.length) (hY:AllL Y) (hbY:Y.length≤4000000) (hn:∀i k,i<T.length→k<Y.length→holdsV (T.getD i zn) (Y.getD k zl).lab=false) (g:Nat→SV):aB Tryd.prog GT 2 (.seq C5 (.seq (.seq A7 (.block 0 (.loop L1))) (.seq (.seq A17 (.block 4 (.loop L3))) D))) (fill g 0 (ww.M5xy X Y T )) (ww.m5xy A ty B ty2 X Y T ) (aF tys fn (aZ (ay.enc true) .none)):=by
 have dT:((ah T).drop (0+0)).take (T.length*65)=ah T:=dtn rfl
 have lt:(ah T).length=T.length*65:=bn _
 have q:=c5 A ty B ty2 X Y T g
 rw[dT,aU] at q
 refine Runs.seq (Runs.av aj mixed q ⟨by omega,Nat.le_refl _,rfl,rfl,by unfold bg;omega,hT,by rw[hA],decide_eq_false (by omega),trivial⟩ (iB A ty B ty2 X Y T ) rfl fun g=> ?_)
 have w64:∀i:Nat,i<4000000→IntKind.i64.wrap ((i:Int)+1)=((i+1:Nat):Int):=fun i hi=>by rw[IntKind.wrap_i64];omega
 have nT:∀i:Nat,i<T.length→0≤(i:Int)∧(i:Int)<T.length∧0+offI 0 (i:Int) 65+65≤(ah T).length∧SV.o (.g (aI (ah T) (0+offI 0 (i:Int) 65) 65))=cNd.enc (T.getD i zn)∧BOk (T.getD i zn).pre:=fun i hi=>by
  obtain⟨h1,h2⟩:=ld_node (l:=T) rfl hi
  exact⟨by omega,by omega,h1,h2,(hT.at hi).1⟩
 have nL:∀V:List Lf,AllL V→∀i:Nat,i<V.length→0≤(i:Int)∧(i:Int)<V.length∧0+offI 0 (i:Int) 64+32≤(lvals V).length∧SV.o (.g (aI (lvals V) (0+offI 0 (i:Int) 64) 32))=cB32.enc (V.getD i zl).lab∧BOk (V.getD i zl).lab:=fun V hV i hi=>by
  obtain⟨h1,h2⟩:=dst.ld_llab V hi
  exact⟨by omega,by omega,h1,h2,(hV.at hi).1⟩
 refine Runs.seq (Runs.seq (Runs.av aj mixed (a7 A ty B ty2 X Y T g) trivial (i1 A ty B ty2 X Y T 0) rfl fun g=> ?_))
 refine Runs.block ?_
 refine Runs.loopX (fun(i:Nat)=>M1 X Y T (i:Int)) (fun _=>ww.m5xy A ty B ty2 X Y T ) (fun i=>i≤T.length) (fun i=>T.length-i) ?_ 0 (Nat.zero_le _) g
 rintro i g hi
 by_cases hit:i=T.length
 ·refine Runs.av aj mixed (o1 A ty B ty2 X Y T (i:Int) g) ⟨decide_eq_false (by omega),trivial⟩ (iB A ty B ty2 X Y T) rfl fun g=> ?_
  show aB _ _ _ _ _ _ _
  refine Runs.seq (Runs.seq (Runs.av aj mixed (a17 A ty B ty2 X Y T g) trivial (j1 A ty B ty2 X Y T 0) rfl fun g=> ?_))
  refine Runs.block ?_
  refine Runs.loopX (fun(j:Nat)=>N1 X Y T (j:Int)) (fun _=>ww.m5xy A ty B ty2 X Y T ) (fun j=>j≤X.length) (fun j=>X.length-j) ?_ 0 (Nat.zero_le _) g
  rintro j g hj
  by_cases hjx:j=X.length
  ·refine Runs.av aj mixed (o3 A ty B ty2 X Y T (j:Int) g) ⟨decide_eq_false (by omega),trivial⟩ (iB A ty B ty2 X Y T) rfl fun g=> ?_
   show aB _ _ _ _ _ _ _
   exact Runs.aK aj mixed [0,1] (fin A ty B ty2 X Y T g) ⟨decide_eq_true (by omega),trivial⟩ (by kernel_rfl) rfl fun g=>aF.ret (zr g _) rfl
  ·have hj':j<X.length:=by omega
   refine Runs.bq aj mixed 2 (h3 A ty B ty2 X Y T (j:Int) g) ⟨decide_eq_true (by omega),trivial⟩ (j1 A ty B ty2 X Y T _) rfl fun g=> ?_
   rw[sL3]
   refine Runs.seq (Runs.block ?_)
   refine Runs.bq aj mixed 2 (x5 A ty B ty2 X Y T (j:Int) g) trivial (j0 A ty B ty2 X Y T _) rfl fun g=> ?_
   rw[sX5]
   refine Runs.seq (Runs.seq (Runs.av aj mixed (a21 A ty B ty2 X Y T (j:Int) g) trivial (j2 A ty B ty2 X Y T _ _ _) rfl fun g=> ?_))
   refine Runs.block ?_
   refine Runs.loopX (fun(i:Nat)=>N2 X Y T (j:Int) (cntV T (X.getD j zl).lab i:Int) (i:Int)) (fun _=>ww.m5xy A ty B ty2 X Y T ) (fun i=>i≤T.length) (fun i=>T.length-i) ?_ 0 (Nat.zero_le _) g
   rintro i g hi
   by_cases hie:i=T.length
   ·refine Runs.av aj mixed (o4 A ty B ty2 X Y T (j:Int) _ (i:Int) g) ⟨decide_eq_false (by omega),trivial⟩ (j3 A ty B ty2 X Y T _ _) rfl fun g=> ?_
    show aB _ _ _ _ _ _ _
    have e1:((cntV T (X.getD j zl).lab i:Nat):Int)=1:=by rw[hie,hc j hj'];rfl
    rw[e1]
    refine Runs.av aj mixed (c27 A ty B ty2 X Y T (j:Int) g) trivial (j1 A ty B ty2 X Y T _) rfl fun g=> ?_
    show aB _ _ _ _ _ _ _
    exact Runs.av aj mixed (e3 A n ty B ty2 X Y T (j:Int) ((j+1:Nat):Int) g) ⟨w64 j (by omega),trivial⟩ (j1 A ty B ty2 X Y T _) rfl fun g=>⟨j+1,g,rfl,rfl,by omega,by omega⟩
   ·have hi':i<T.length:=by omega
    obtain⟨a1,a2,a3,a4,a5⟩:=nT i hi'
    obtain⟨b1,b2,b3,b4,b5⟩:=nL X hX j hj'
    have hcl:=cnt_le T (X.getD j zl).lab i
    cases hh:holdsV (T.getD i zn) (X.getD j zl).lab with
    | true=>
     have e2:cntV T (X.getD j zl).lab (i+1)=cntV T (X.getD j zl).lab i+1:=by rw[cntV,hh,cond_true]
     exact Runs.av aj mixed (t4t A n ty B ty2 X Y T (j:Int) _ ((cntV T (X.getD j zl).lab (i+1):Nat):Int) (i:Int) ((i+1:Nat):Int) _ _ g) ⟨decide_eq_true a2,a1,a2,a3,a4,b1,b2,b3,b4,a5,b5,by rw[hh],by rw[e2];exact w64 _ (by omega),w64 i (by omega),trivial⟩ (j2 A ty B ty2 X Y T _ _ _) rfl fun g=>⟨i+1,g,rfl,rfl,by omega,by omega⟩
    | false=>
     have e2:cntV T (X.getD j zl).lab (i+1)=cntV T (X.getD j zl).lab i:=by rw[cntV,hh,cond_false]
     exact Runs.av aj mixed (t4f A n ty B ty2 X Y T (j:Int) _ (i:Int) ((i+1:Nat):Int) _ _ g) ⟨decide_eq_true a2,a1,a2,a3,a4,b1,b2,b3,b4,a5,b5,by rw[hh],w64 i (by omega),trivial⟩ (j2 A ty B ty2 X Y T _ _ _) rfl fun g=>⟨i+1,g,by rw[e2],rfl,by omega,by omega⟩
 ·have hi':i<T.length:=by omega
  refine Runs.bq aj mixed 2 (h1 A ty B ty2 X Y T (i:Int) g) ⟨decide_eq_true (by omega),trivial⟩ (i1 A ty B ty2 X Y T _) rfl fun g=> ?_
  rw[sL1]
  refine Runs.seq (Runs.block ?_)
  refine Runs.bq aj mixed 2 (x1 A ty B ty2 X Y T (i:Int) g) trivial (i2 A ty B ty2 X Y T _ _) rfl fun g=> ?_
  rw[sX1]
  refine Runs.block ?_
  refine Runs.loopX (fun(k:Nat)=>M2 X Y T (i:Int) (k:Int)) (fun _=>ww.m5xy A ty B ty2 X Y T ) (fun k=>k≤Y.length) (fun k=>Y.length-k) ?_ 0 (Nat.zero_le _) g
  rintro k g hk
  by_cases hky:k=Y.length
  ·refine Runs.av aj mixed (o2 A ty B ty2 X Y T (i:Int) (k:Int) g) ⟨decide_eq_false (by omega),trivial⟩ (i1 A ty B ty2 X Y T _) rfl fun g=> ?_
   show aB _ _ _ _ _ _ _
   exact Runs.av aj mixed (e1 A n ty B ty2 X Y T (i:Int) ((i+1:Nat):Int) g) ⟨w64 i (by omega),trivial⟩ (i1 A ty B ty2 X Y T _) rfl fun g=>⟨i+1,g,rfl,rfl,by omega,by omega⟩
  ·have hk':k<Y.length:=by omega
   obtain⟨a1,a2,a3,a4,a5⟩:=nT i hi'
   obtain⟨b1,b2,b3,b4,b5⟩:=nL Y hY k hk'
   exact Runs.av aj mixed (t2 A n ty B ty2 X Y T (i:Int) (k:Int) ((k+1:Nat):Int) _ _ g) ⟨decide_eq_true b2,a1,a2,a3,a4,b1,b2,b3,b4,a5,b5,by rw[hn i k hi' hk'],w64 k (by omega),trivial⟩ (i2 A ty B ty2 X Y T _ _) rfl fun g=>⟨k+1,g,rfl,rfl,by omega,by omega⟩
end sxy
theorem last (H:Nd→Nd→B32) (hH:H=hV) (A:List Lf) (n c:Nat) (ty:TypeId) (B:List Lf) (m d:Nat) (ty2:TypeId) (X:List Lf) (hX:AllL X) (Y:List Lf) (hY:AllL Y) (hne:((X++Y).map leafV).Pairwise NeP) (hb:X.length+Y.length≤4000000) (g:Nat→SV):aB Tryd.prog GT 2 (.seq C5 (.seq (.seq A7 (.block 0 (.loop L1))) (.seq (.seq A17 (.block 4 (.loop L3))) D))) (fill g 0 (ww.MS X Y (stT H X Y))) (ww.mS A ty B ty2 X Y (stT H X Y)) (aF tys fn (aZ (ay.enc true) .none)):=by
 have hA:=acp.ap_t hX hY hne H hH
 have ok:=acp.aok hX hY hne H hH
 have le:(stT H X Y).length≤X.length:=by rw[hH];exact acp.sl hX hne
 have hc:=fun k (hk:k<X.length)=>acp.cnt hX hY hne H hH hk
 have hn:=fun i k (hi:i<(stT H X Y).length) (hk:k<Y.length)=>acp.none_of hX hY hne H hH hi hk
 cases X with
 | nil=>
  have e0:stT H [] Y=[]:=by rw[hH];unfold stT;rw[tnd_nil];rfl
  rw[e0]
  cases Y with
  | nil=>exact s.last H hH A n c ty B m d ty2 [] [] [] g
  | cons y Y=>exact sy.last H hH A n c ty B m d ty2 [] (y::Y) [] (Nat.succ_pos _) g
 | cons x X=>
  cases Y with
  | nil=>exact sx.last H hH A n c ty B m d ty2 (x::X) [] _ hX ok hA le (by omega) hc (acp.few hX hne H hH (List.cons_ne_nil _ _)) (Nat.succ_pos _) g
  | cons y Y=>exact sxy.last H hH A n c ty B m d ty2 (x::X) (y::Y) _ hX ok hA le (by omega) hc (Nat.succ_pos _) hY (by omega) hn g
namespace ww
theorem run (H:Nd→Nd→B32) (hH:H=hV) (A:List Lf) (n c:Nat) (ty:TypeId) (B:List Lf) (m d:Nat) (ty2:TypeId) (hn:A.length=n) (hc:n≤c) (hA:AllL A) (hm:B.length=m) (hd:m≤d) (hB:AllL B) (hb:n+m≤3000000):aB Tryd.prog GT 2 body (aG fn [.o (.a (.sld 0 0 0 n c)),.o (.a (.sld 1 0 0 m d))]) [⟨false,ty,.prv (lvals A)⟩,⟨false,ty2,.prv (lvals B)⟩] (aF tys fn (aZ (ay.enc true) .none)):=by
 refine Runs.of_outNP aj mixed 2 [0,1] (s0 A n c ty B m d ty2 ) trivial (i0 A n c ty B m d ty2 ) (by kernel_rfl) fun g=> ?_
 rw[body2]
 refine Runs.seq (apart A n c ty B m d ty2 hn hc (by omega) hm hd (by omega) g fun g=> ?_)
 have hX:AllL (dstA A n):=fun z hz=>hA z (dstA_mem A n (by omega) z hz)
 have hx:=dstA_ne A n
 have lX:=dstA_len A n
 have hY:AllL (apB (dstA A n) B m):=fun z hz=>hB z (apB_mem _ B m (by omega) z hz)
 have hy:=apB_ne hx B m
 have lY:=apB_len (dstA A n) B m
 generalize apB (dstA A n) B m=Y at hY hy lY ⊢
 generalize dstA A n=X at hX hx lX hy ⊢
 refine Runs.seq (ww.stays H hH A n c ty B m d ty2 X hX Y hY hy (by omega) g fun g=> ?_)
 exact last H hH A n c ty B m d ty2 X hX Y hY hy (by omega) g
end ww
namespace wn
theorem run (H:Nd→Nd→B32) (hH:H=hV) (A:List Lf) (n c:Nat) (ty:TypeId) (b:Option Addr) (d:Nat) (ty2:TypeId) (hn:A.length=n) (hc:n≤c) (hA:AllL A) (hb:n≤3000000):aB Tryd.prog GT 2 body (aG fn [.o (.a (.sld 0 0 0 n c)),.o (.a (.v (.slice b 0 0)))]) [⟨false,ty,.prv (lvals A)⟩,⟨false,ty2,.prv (lvals [])⟩] (aF tys fn (aZ (ay.enc true) .none)):=by
 refine Runs.of_outNP aj mixed 2 [0,1] (s0 A n c ty b ty2 ) trivial (i0 A n c ty b ty2 ) (by kernel_rfl) fun g=> ?_
 rw[body2]
 refine Runs.seq (apart A n c ty b d ty2 hn hc (by omega) g fun g=> ?_)
 have hX:AllL (dstA A n):=fun z hz=>hA z (dstA_mem A n (by omega) z hz)
 have hx:=dstA_ne A n
 have lX:=dstA_len A n
 generalize dstA A n=X at hX hx lX ⊢
 refine Runs.seq (ww.stays H hH A n c ty [] 0 d ty2 X hX [] (fun z hz=>(by cases hz)) (by rw[List.append_nil];exact hx) (by show X.length+0≤_;omega) g fun g=> ?_)
 exact last H hH A n c ty [] 0 d ty2 X hX [] (fun z hz=>(by cases hz)) (by rw[List.append_nil];exact hx) (by show X.length+0≤_;omega) g
end wn
namespace nw
theorem run (H:Nd→Nd→B32) (hH:H=hV) (a:Option Addr) (c:Nat) (ty:TypeId) (B:List Lf) (m d:Nat) (ty2:TypeId) (hm:B.length=m) (hd:m≤d) (hB:AllL B) (hb:m≤3000000):aB Tryd.prog GT 2 body (aG fn [.o (.a (.v (.slice a 0 0))),.o (.a (.sld 1 0 0 m d))]) [⟨false,ty,.prv (lvals [])⟩,⟨false,ty2,.prv (lvals B)⟩] (aF tys fn (aZ (ay.enc true) .none)):=by
 refine Runs.of_outNP aj mixed 2 [0,1] (s0 a ty B m d ty2 ) trivial (i0 a ty B m d ty2 ) (by kernel_rfl) fun g=> ?_
 rw[body2]
 refine Runs.seq (apart a c ty B m d ty2 hm hd (by omega) g fun g=> ?_)
 have hY:AllL (apB [] B m):=fun z hz=>hB z (apB_mem _ B m (by omega) z hz)
 have hy:=apB_ne (X:=[]) List.Pairwise.nil B m
 have lY:=apB_len [] B m
 generalize apB [] B m=Y at hY hy lY ⊢
 refine Runs.seq (ww.stays H hH [] 0 c ty B m d ty2 [] (fun z hz=>(by cases hz)) Y hY hy (by show 0+Y.length≤_;omega) g fun g=> ?_)
 exact last H hH [] 0 c ty B m d ty2 [] (fun z hz=>(by cases hz)) Y hY hy (by show 0+Y.length≤_;omega) g
end nw
namespace nn
theorem run (H:Nd→Nd→B32) (hH:H=hV) (a:Option Addr) (c:Nat) (ty:TypeId) (b:Option Addr) (d:Nat) (ty2:TypeId):aB Tryd.prog GT 2 body (aG fn [.o (.a (.v (.slice a 0 0))),.o (.a (.v (.slice b 0 0)))]) [⟨false,ty,.prv (lvals [])⟩,⟨false,ty2,.prv (lvals [])⟩] (aF tys fn (aZ (ay.enc true) .none)):=by
 refine Runs.of_outNP aj mixed 2 [0,1] (s0 a ty b ty2 ) trivial (i0 a ty b ty2 ) (by kernel_rfl) fun g=> ?_
 rw[body2]
 refine Runs.seq (apart a c ty b d ty2 g fun g=> ?_)
 refine Runs.seq (ww.stays H hH [] 0 c ty [] 0 d ty2 [] (fun z hz=>(by cases hz)) [] (fun z hz=>(by cases hz)) List.Pairwise.nil (by decide) g fun g=> ?_)
 exact last H hH [] 0 c ty [] 0 d ty2 [] (fun z hz=>(by cases hz)) [] (fun z hz=>(by cases hz)) List.Pairwise.nil (by decide) g
end nn
end lglt
end Go.Proofs.YtdccehmekkcheaaDoor
