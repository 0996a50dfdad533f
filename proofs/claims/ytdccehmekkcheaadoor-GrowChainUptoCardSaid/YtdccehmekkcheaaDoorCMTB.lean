/- Packages tree, beaconref11: nodes that are apart: walks, contracts of both sides. -/
import Derived.Test.YtdccehmekkcheaaDoorCFo
import Derived.Test.YtdccehmekkcheaaDoorCTrK
set_option linter.unusedSimpArgs false
set_option linter.unusedVariables false
namespace Go.Proofs.YtdccehmekkcheaaDoor
open Go Go.Eng Go.RowKit
set_option maxRecDepth 100000
namespace tap
noncomputable abbrev fn:=Tryd.f35
noncomputable def body:Code:=d9 fn
noncomputable def A1:Code:=cs1 (cs1 (bM 1 body))
noncomputable def L:Code:=cL (cB (cs2 (cs1 (bM 1 body))))
noncomputable def D:Code:=cs2 (bM 1 body)
noncomputable def Γ:Cons Tryd.prog GT:=[tgood.con,bcmp.con,tcom.con]
theorem dJ:bM 1 body= .seq (.seq A1 (.block 0 (.loop L))) D:=by kernel_rfl
def M0 (n c:Nat):List (Option SV):=aD 43 0 [(0,.o (.a (.sld 0 0 0 n c)))]
def M1 (n c:Nat) (j:Int):List (Option SV):=aD 43 0 [(0,.o (.a (.sld 0 0 0 n c))),(6,.o (.a (.sld 0 0 0 n c))),(7,.o (.a (aG .i64 n))),(8,.o (.a (aG .i64 j)))]
def MZ (r:Bool):List (Option SV):=aD 43 0 [(2,.o (.a (fH r)))]
section
variable (l:List Nd)
def mem (ty:TypeId):List Blk:=[⟨false,ty,.prv (ah l)⟩]
theorem fO (n c:Nat) (ty:TypeId):oI (M0 n c) (mem l ty):=by delta oI;kernel_rfl
theorem dh (n c:Nat) (ty:TypeId) (j:Int):oI (M1 n c j) (mem l ty):=by delta oI;kernel_rfl
theorem iM (ty:TypeId) (r:Bool):oI (MZ r) (mem l ty):=by delta oI;kernel_rfl
theorem s0 (n c:Nat) (ty:TypeId):oX Γ 300 (eD 1 body) (aK fn [.o (.a (.sld 0 0 0 n c))]) (mem l ty) [] .normal (M0 n c) (mem l ty) []:=by delta oX;kernel_rfl
theorem a1 (n c:Nat) (ty:TypeId) (g:Nat→SV):oX Γ 300 A1 (fill g 0 (M0 n c )) (mem l ty) [] .normal (M1 n c 0) (mem l ty) []:=by delta oX;kernel_rfl
theorem bad (n c:Nat) (ty:TypeId) (j:Int) (x:Nd) (g:Nat→SV):oX Γ 300 L (fill g 0 (M1 n c j)) (mem l ty) [(9,[.b true]),(12,[.ds (cNd.enc x)]),(14,[.s (aI.enc false)])] .ret (MZ false) (mem l ty) [decide ((j:Int)<n)=true,0≤j,j<n,(0+aN 0 j 65)+65≤(ah l).length,SV.o (.g (bn (ah l) (0+aN 0 j 65) 65))=cNd.enc x,BOk x.pre,aI.enc (gD x)=aI.enc false]:=by delta oX;kernel_rfl
theorem stp0 (n c:Nat) (ty:TypeId) (x:Nd) (g:Nat→SV):oX Γ 300 L (fill g 0 (M1 n c 0)) (mem l ty) [(9,[.b true]),(12,[.ds (cNd.enc x)]),(14,[.s (aI.enc true)])] .normal (M1 n c 1) (mem l ty) [decide ((0:Int)<n)=true,0≤(0:Int),(0:Int)<n,(0+aN 0 (0:Int) 65)+65≤(ah l).length,SV.o (.g (bn (ah l) (0+aN 0 (0:Int) 65) 65))=cNd.enc x,BOk x.pre,aI.enc (gD x)=aI.enc true]:=by delta oX;kernel_rfl
theorem lo (n c:Nat) (ty:TypeId) (j i q:Int) (x y:Nd) (g:Nat→SV):oX Γ 300 L (fill g 0 (M1 n c j)) (mem l ty) [(9,[.b true]),(12,[.ds (cNd.enc x)]),(14,[.s (aI.enc true)]),(17,[.b true]),(20,[.n i]),(22,[.ds (cNd.enc y)]),(27,[.s (.o (.a (aG .i64 q)))]),(28,[.b true])] .ret (MZ false) (mem l ty) [decide ((j:Int)<n)=true,0≤j,j<n,(0+aN 0 j 65)+65≤(ah l).length,SV.o (.g (bn (ah l) (0+aN 0 j 65) 65))=cNd.enc x,BOk x.pre,aI.enc (gD x)=aI.enc true,decide (j>0)=true,IntKind.i64.wrap (j-1)=i,0≤i,i<n,(0+aN 0 i 65)+65≤(ah l).length,SV.o (.g (bn (ah l) (0+aN 0 i 65) 65))=cNd.enc y,0+32≤64,32≤32,0+32≤64,32≤32,(aQ .i64).enc (cmpI (y.pre.to) (x.pre.to))=(aQ .i64).enc q,decide (q≥0)=true]:=by delta oX;kernel_rfl
theorem cl (n c:Nat) (ty:TypeId) (j i q d:Int) (x y:Nd) (g:Nat→SV):oX Γ 300 L (fill g 0 (M1 n c j)) (mem l ty) [(9,[.b true]),(12,[.ds (cNd.enc x)]),(14,[.s (aI.enc true)]),(17,[.b true]),(20,[.n i]),(22,[.ds (cNd.enc y)]),(27,[.s (.o (.a (aG .i64 q)))]),(28,[.b false]),(34,[.s (.o (.a (aG .i64 d)))]),(40,[.b true])] .ret (MZ false) (mem l ty) [decide ((j:Int)<n)=true,0≤j,j<n,(0+aN 0 j 65)+65≤(ah l).length,SV.o (.g (bn (ah l) (0+aN 0 j 65) 65))=cNd.enc x,BOk x.pre,aI.enc (gD x)=aI.enc true,decide (j>0)=true,IntKind.i64.wrap (j-1)=i,0≤i,i<n,(0+aN 0 i 65)+65≤(ah l).length,SV.o (.g (bn (ah l) (0+aN 0 i 65) 65))=cNd.enc y,0+32≤64,32≤32,0+32≤64,32≤32,(aQ .i64).enc (cmpI (y.pre.to) (x.pre.to))=(aQ .i64).enc q,decide (q≥0)=false,BOk y.pre,BOk x.pre,(aQ .i64).enc (bN y.pre x.pre:Nat)=(aQ .i64).enc d,decide (d≥(if x.len<y.len then x.len else y.len))=true]:=by delta oX;kernel_rfl
theorem stp (n c:Nat) (ty:TypeId) (j i q d j':Int) (x y:Nd) (g:Nat→SV):oX Γ 300 L (fill g 0 (M1 n c j)) (mem l ty) [(9,[.b true]),(12,[.ds (cNd.enc x)]),(14,[.s (aI.enc true)]),(17,[.b true]),(20,[.n i]),(22,[.ds (cNd.enc y)]),(27,[.s (.o (.a (aG .i64 q)))]),(28,[.b false]),(34,[.s (.o (.a (aG .i64 d)))]),(40,[.b false]),(42,[.n j'])] .normal (M1 n c j') (mem l ty) [decide ((j:Int)<n)=true,0≤j,j<n,(0+aN 0 j 65)+65≤(ah l).length,SV.o (.g (bn (ah l) (0+aN 0 j 65) 65))=cNd.enc x,BOk x.pre,aI.enc (gD x)=aI.enc true,decide (j>0)=true,IntKind.i64.wrap (j-1)=i,0≤i,i<n,(0+aN 0 i 65)+65≤(ah l).length,SV.o (.g (bn (ah l) (0+aN 0 i 65) 65))=cNd.enc y,0+32≤64,32≤32,0+32≤64,32≤32,(aQ .i64).enc (cmpI (y.pre.to) (x.pre.to))=(aQ .i64).enc q,decide (q≥0)=false,BOk y.pre,BOk x.pre,(aQ .i64).enc (bN y.pre x.pre:Nat)=(aQ .i64).enc d,decide (d≥(if x.len<y.len then x.len else y.len))=false,IntKind.i64.wrap (j+1)=j']:=by delta oX;kernel_rfl
theorem out (n c:Nat) (ty:TypeId) (j:Int) (g:Nat→SV):oX Γ 300 L (fill g 0 (M1 n c j)) (mem l ty) [(9,[.b false])] (.exit 0) (M0 n c) (mem l ty) [decide (j<n)=false]:=by delta oX;kernel_rfl
theorem fin (n c:Nat) (ty:TypeId) (g:Nat→SV):oX Γ 300 D (fill g 0 (M0 n c )) (mem l ty) [] .ret (MZ true) (mem l ty) []:=by delta oX;kernel_rfl
theorem zr (ty:TypeId) (r:Bool) (g:Nat→SV):eRes tys (fill g 0 (MZ r)) (fun k=>(mem l ty )[k]?) fn.results.toList=some [.a (fH r)]:=by kernel_rfl
end
end tap
namespace rap
noncomputable abbrev fn:=Tryd.f36
noncomputable def body:Code:=d9 fn
noncomputable def A1:Code:=cs1 (cs1 (bM 1 body))
noncomputable def L:Code:=cL (cB (cs2 (cs1 (bM 1 body))))
noncomputable def D:Code:=cs2 (bM 1 body)
noncomputable def Γ:Cons Tryd.prog GT:=[rgood.con,blw.con,rcom.con]
theorem dJ:bM 1 body= .seq (.seq A1 (.block 0 (.loop L))) D:=by kernel_rfl
def M0 (n c:Nat):List (Option SV):=aD 53 0 [(0,.o (.a (.sld 0 0 0 n c)))]
def M1 (n c:Nat) (j:Int):List (Option SV):=aD 53 0 [(0,.o (.a (.sld 0 0 0 n c))),(7,.o (.a (aG .i64 n))),(8,.o (.a (aG .i64 j)))]
def MZ (r:Bool):List (Option SV):=aD 53 0 [(2,.o (.a (fH r)))]
section
variable (l:List Nd)
def mem (ty:TypeId):List Blk:=[⟨false,ty,.prv (ah l)⟩]
theorem fO (n c:Nat) (ty:TypeId):oI (M0 n c) (mem l ty):=by delta oI;kernel_rfl
theorem dh (n c:Nat) (ty:TypeId) (j:Int):oI (M1 n c j) (mem l ty):=by delta oI;kernel_rfl
theorem iM (ty:TypeId) (r:Bool):oI (MZ r) (mem l ty):=by delta oI;kernel_rfl
theorem s0 (n c:Nat) (ty:TypeId):oX Γ 300 (eD 1 body) (aK fn [.o (.a (.sld 0 0 0 n c))]) (mem l ty) [] .normal (M0 n c) (mem l ty) []:=by delta oX;kernel_rfl
theorem a1 (n c:Nat) (ty:TypeId) (g:Nat→SV):oX Γ 300 A1 (fill g 0 (M0 n c )) (mem l ty) [] .normal (M1 n c 0) (mem l ty) []:=by delta oX;kernel_rfl
theorem bad (n c:Nat) (ty:TypeId) (j:Int) (x:Nd) (g:Nat→SV):oX Γ 300 L (fill g 0 (M1 n c j)) (mem l ty) [(9,[.b true]),(14,[.ds (cNd.enc x)]),(15,[.s (aI.enc false)])] .ret (MZ false) (mem l ty) [decide ((j:Int)<n)=true,0≤j,j<n,(0+aN 0 j 65)+65≤(ah l).length,SV.o (.g (bn (ah l) (0+aN 0 j 65) 65))=cNd.enc x,BOk x.pre,aI.enc (gD x)=aI.enc false]:=by delta oX;kernel_rfl
theorem stp0 (n c:Nat) (ty:TypeId) (x:Nd) (g:Nat→SV):oX Γ 300 L (fill g 0 (M1 n c 0)) (mem l ty) [(9,[.b true]),(14,[.ds (cNd.enc x)]),(15,[.s (aI.enc true)])] .normal (M1 n c 1) (mem l ty) [decide ((0:Int)<n)=true,0≤(0:Int),(0:Int)<n,(0+aN 0 (0:Int) 65)+65≤(ah l).length,SV.o (.g (bn (ah l) (0+aN 0 (0:Int) 65) 65))=cNd.enc x,BOk x.pre,aI.enc (gD x)=aI.enc true]:=by delta oX;kernel_rfl
theorem lo (n c:Nat) (ty:TypeId) (j i:Int) (x y:Nd) (g:Nat→SV):oX Γ 300 L (fill g 0 (M1 n c j)) (mem l ty) [(9,[.b true]),(14,[.ds (cNd.enc x)]),(15,[.s (aI.enc true)]),(18,[.b false]),(21,[.n i]),(23,[.ds (cNd.enc y)]),(27,[.ds (cNd.enc x)]),(32,[.s (aI.enc false)])] .ret (MZ false) (mem l ty) [decide ((j:Int)<n)=true,0≤j,j<n,(0+aN 0 j 65)+65≤(ah l).length,SV.o (.g (bn (ah l) (0+aN 0 j 65) 65))=cNd.enc x,BOk x.pre,aI.enc (gD x)=aI.enc true,(j==0)=false,IntKind.i64.wrap (j-1)=i,0≤i,i<n,(0+aN 0 i 65)+65≤(ah l).length,SV.o (.g (bn (ah l) (0+aN 0 i 65) 65))=cNd.enc y,0≤j,j<n,(0+aN 0 j 65)+65≤(ah l).length,SV.o (.g (bn (ah l) (0+aN 0 j 65) 65))=cNd.enc x,BOk y.pre,BOk x.pre,aI.enc (ltV y.pre x.pre)=aI.enc false]:=by delta oX;kernel_rfl
theorem cl (n c:Nat) (ty:TypeId) (j i d:Int) (x y:Nd) (g:Nat→SV):oX Γ 300 L (fill g 0 (M1 n c j)) (mem l ty) [(9,[.b true]),(14,[.ds (cNd.enc x)]),(15,[.s (aI.enc true)]),(18,[.b false]),(21,[.n i]),(23,[.ds (cNd.enc y)]),(27,[.ds (cNd.enc x)]),(32,[.s (aI.enc true)]),(44,[.s (.o (.a (aG .i64 d)))]),(50,[.b true])] .ret (MZ false) (mem l ty) [decide ((j:Int)<n)=true,0≤j,j<n,(0+aN 0 j 65)+65≤(ah l).length,SV.o (.g (bn (ah l) (0+aN 0 j 65) 65))=cNd.enc x,BOk x.pre,aI.enc (gD x)=aI.enc true,(j==0)=false,IntKind.i64.wrap (j-1)=i,0≤i,i<n,(0+aN 0 i 65)+65≤(ah l).length,SV.o (.g (bn (ah l) (0+aN 0 i 65) 65))=cNd.enc y,0≤j,j<n,(0+aN 0 j 65)+65≤(ah l).length,SV.o (.g (bn (ah l) (0+aN 0 j 65) 65))=cNd.enc x,BOk y.pre,BOk x.pre,aI.enc (ltV y.pre x.pre)=aI.enc true,BOk y.pre,BOk x.pre,0≤(if x.len<y.len then x.len else y.len),(if x.len<y.len then x.len else y.len)≤256,(aQ .i64).enc ((min ((if x.len<y.len then x.len else y.len)).toNat (bN y.pre x.pre):Nat):Int)=(aQ .i64).enc d,(d==(if x.len<y.len then x.len else y.len))=true]:=by delta oX;kernel_rfl
theorem stp (n c:Nat) (ty:TypeId) (j i d j':Int) (x y:Nd) (g:Nat→SV):oX Γ 300 L (fill g 0 (M1 n c j)) (mem l ty) [(9,[.b true]),(14,[.ds (cNd.enc x)]),(15,[.s (aI.enc true)]),(18,[.b false]),(21,[.n i]),(23,[.ds (cNd.enc y)]),(27,[.ds (cNd.enc x)]),(32,[.s (aI.enc true)]),(44,[.s (.o (.a (aG .i64 d)))]),(50,[.b false]),(52,[.n j'])] .normal (M1 n c j') (mem l ty) [decide ((j:Int)<n)=true,0≤j,j<n,(0+aN 0 j 65)+65≤(ah l).length,SV.o (.g (bn (ah l) (0+aN 0 j 65) 65))=cNd.enc x,BOk x.pre,aI.enc (gD x)=aI.enc true,(j==0)=false,IntKind.i64.wrap (j-1)=i,0≤i,i<n,(0+aN 0 i 65)+65≤(ah l).length,SV.o (.g (bn (ah l) (0+aN 0 i 65) 65))=cNd.enc y,0≤j,j<n,(0+aN 0 j 65)+65≤(ah l).length,SV.o (.g (bn (ah l) (0+aN 0 j 65) 65))=cNd.enc x,BOk y.pre,BOk x.pre,aI.enc (ltV y.pre x.pre)=aI.enc true,BOk y.pre,BOk x.pre,0≤(if x.len<y.len then x.len else y.len),(if x.len<y.len then x.len else y.len)≤256,(aQ .i64).enc ((min ((if x.len<y.len then x.len else y.len)).toNat (bN y.pre x.pre):Nat):Int)=(aQ .i64).enc d,(d==(if x.len<y.len then x.len else y.len))=false,IntKind.i64.wrap (j+1)=j']:=by delta oX;kernel_rfl
theorem out (n c:Nat) (ty:TypeId) (j:Int) (g:Nat→SV):oX Γ 300 L (fill g 0 (M1 n c j)) (mem l ty) [(9,[.b false])] (.exit 0) (M0 n c) (mem l ty) [decide (j<n)=false]:=by delta oX;kernel_rfl
theorem fin (n c:Nat) (ty:TypeId) (g:Nat→SV):oX Γ 300 D (fill g 0 (M0 n c )) (mem l ty) [] .ret (MZ true) (mem l ty) []:=by delta oX;kernel_rfl
theorem zr (ty:TypeId) (r:Bool) (g:Nat→SV):eRes tys (fill g 0 (MZ r)) (fun k=>(mem l ty )[k]?) fn.results.toList=some [.a (fH r)]:=by kernel_rfl
end
end rap
theorem vN {l:List Nd} {i:Nat} (h:apN l i=false):∀n,i≤n→apN l n=false
 | 0,hi=>by
        obtain rfl:i=0:=by omega
        exact h
 | 1,hi=>by
  rcases Nat.lt_or_ge i 1 with h1 | h1
  ·obtain rfl:i=0:=by omega
   simp[apN] at h
  ·obtain rfl:i=1:=by omega
   exact h
 | n+2,hi=>by
  rcases Nat.lt_or_ge i (n+2) with h1 | h1
  ·rw[apN,vN h (n+1) (by omega),Bool.false_and]
  ·obtain rfl:i=n+2:=by omega
   exact h
def bg (l:List Nd):Prop:=∀x∈l,NOk x
theorem bg.at {l:List Nd} (h:bg l) {i:Nat} (hi:i<l.length):NOk (l.getD i zn):=h _ (dV hi _)
def bK:Nat:=4611686018427387904
theorem jJ {T:Ty} {fn:Func} {Q Q':SV→List Blk→Prop} (h:∀r m,Q r m→Q' r m) {e:Ex} {t:List SV} {m:List Blk}:aH T fn Q e t m→aH T fn Q' e t m:=fun⟨a,l,b,c⟩=>⟨a,l,b,h _ _ c⟩
def runOutM {G:Glob} {P:Program} (Γ:Cons P G) (T:Ty) (fn:Func) (n:Nat) (blks:List Blk) (args:List SV) (orc:Orc):Option (SV × Cst):=
 match runFn Γ T fn n blks args orc with
 | some (r,_,cs)=>some (r,cs)
 | none=>none
theorem runs_of_out {G:Glob} {P:Program} {Γ:Cons P G} {T:Ty} (hT:T.ok P) (hm:P.follows .mixedOrders=true) {fn:Func} {c:Code} (hb:fn.body=some c) {n F:Nat} {orc:Orc} {args:List SV} {blks:List Blk} {r:SV} {cs:Cst}
  (h:runOutM Γ T fn n blks args orc=some (r,cs)) (hc:Holds cs):aF P G F c (aK fn args) blks (aH T fn (bJ r .none)):=by
 unfold runOutM at h
 split at h<;>try cases h
 rename_i h
 unfold runFn at h
 rw[hb] at h
 simp only at h
 split at h<;>try cases h
 ·rename_i s cs2 he
  split at h<;>cases h
  rename_i l hl
  exact Runs.eB hT hm (tm':=s.tm) (mem':=s.mem) (orc':=s.orc) he hc (aH.fall hl rfl)
 ·rename_i s cs2 he
  split at h<;>cases h
  rename_i l hl
  exact Runs.eB hT hm (tm':=s.tm) (mem':=s.mem) (orc':=s.orc) he hc (aH.ret hl rfl)
theorem mq {G:Glob} {P:Program} {Γ:Cons P G} {T:Ty} (hT:T.ok P) (hm:P.follows .mixedOrders=true) {fn:Func} {c:Code} (hb:fn.body=some c) {n F:Nat} {orc:Orc} {args:List SV} {r:SV} {cs:Cst}
  (h:gK Γ T fn n args orc=some (r,cs)) (hc:Holds cs):aF P G F c (aK fn args) [] (aH T fn (bJ r .none)):=runs_of_out hT hm hb (blks:=[]) h hc
namespace tap
theorem nil (a:Option Addr):gK Γ tys fn 100 [.o (.a (.v (.slice a 0 0)))] []=some (aI.enc true,[]):=by kernel_rfl
theorem run (l:List Nd) (n c:Nat) (ty:TypeId) (hn:l.length=n) (hm:n<bK) (hok:bg l):aF Tryd.prog GT 1 body (aK fn [.o (.a (.sld 0 0 0 n c))]) [⟨false,ty,.prv (ah l)⟩] (aH tys fn (bJ (aI.enc (bC l)) .none)):=by
 unfold bK at hm
 have hl:(ah l).length=n*65:=by rw[←hn];exact bH l
 have hfalse:∀j,j<n→apN l (j+1)=false→bC l=false:=fun j hj h=>vN h _ (by omega)
 have ldx:∀j,j<n→0≤(j:Int)∧(j:Int)<n∧0+aN 0 (j:Int) 65+65≤(ah l).length∧SV.o (.g (bn (ah l) (0+aN 0 (j:Int) 65) 65))=cNd.enc (l.getD j zn):=fun j hj=>by
  have hb:j*65+65≤n*65:=by have:=Nat.mul_le_mul_right 65 (show j+1≤n by omega);omega
  refine⟨by omega,by omega,by rw[offs,hl];omega,by rw[offs];exact ld_nd l (by omega)⟩
 refine Runs.dz aj mixed 1 (s0 l n c ty) trivial (fO l n c ty) rfl fun g=> ?_
 rw[dJ]
 refine Runs.seq (Runs.seq (Runs.au aj mixed (a1 l n c ty g) trivial (dh l n c ty 0) rfl fun g=> ?_))
 refine Runs.block ?_
 refine Runs.dA (fun(j:Nat)=>M1 n c (j:Int)) (fun _=>mem l ty) (fun j=>j≤n∧apN l j=true) (fun j=>n-j) ?_ 0 ⟨Nat.zero_le _,rfl⟩ g
 rintro j g ⟨hj,ha⟩
 by_cases hjn:j=n
 ·refine Runs.au aj mixed (out l n c ty _ g) ⟨decide_eq_false (by omega),trivial⟩ (fO l n c ty) rfl fun g=> ?_
  show aF _ _ _ _ _ _ _
  refine Runs.au aj mixed (fin l n c ty g) trivial (iM l ty _) rfl fun g=>aH.ret (zr l ty _ g) ?_
  have:bC l=true:=by unfold bC;rw[hn,←hjn];exact ha
  rw[this]
  rfl
 ·obtain⟨x1,x2,x3,x4⟩:=ldx j (by omega)
  have okx:=hok.at (show j<l.length by omega)
  cases hg:gD (l.getD j zn) with
  | false=>
   have hf:bC l=false:=hfalse j (by omega) (by
    cases j with
    | zero=>rw[apN];exact hg
    | succ j=>rw[apN,hg,Bool.false_and,Bool.and_false])
   refine Runs.au aj mixed (bad l n c ty _ _ g) ⟨decide_eq_true (by omega),x1,x2,x3,x4,okx.1,by rw[hg],trivial⟩ (iM l ty _) rfl fun g=>aH.ret (zr l ty _ g) ?_
   rw[hf]
   rfl
  | true=>
   cases j with
   | zero=>
    refine Runs.au aj mixed (stp0 l n c ty _ g) ⟨decide_eq_true x2,x1,x2,x3,x4,okx.1,by rw[hg],trivial⟩ (dh l n c ty _) rfl fun g=> ?_
    exact⟨1,g,rfl,rfl,⟨by omega,by rw[apN];exact hg⟩,by omega⟩
   | succ i=>
    obtain⟨y1,y2,y3,y4⟩:=ldx i (by omega)
    have oky:=hok.at (show i<l.length by omega)
    have hi:IntKind.i64.wrap (((i+1:Nat):Int)-1)=(i:Int):=by rw[IntKind.wrap_i64];omega
    have ap2:apN l (i+2)=(gD (l.getD (i+1) zn)&&oG (l.getD i zn) (l.getD (i+1) zn)):=by rw[apN,ha,Bool.true_and]
    cases hlt:ltV (l.getD i zn).pre (l.getD (i+1) zn).pre with
    | false=>
     have hf:bC l=false:=hfalse (i+1) (by omega) (by rw[ap2];unfold oG;rw[hlt,Bool.false_and,Bool.and_false])
     have hq:¬cmpV (l.getD i zn).pre (l.getD (i+1) zn).pre<0:=fun h=>by rw[(cmpV_neg oky.1 okx.1).1 h] at hlt;cases hlt
     refine Runs.au aj mixed (lo l n c ty _ _ (cmpV (l.getD i zn).pre (l.getD (i+1) zn).pre) _ _ g) ⟨decide_eq_true (by omega),x1,x2,x3,x4,okx.1,by rw[hg],decide_eq_true (by omega),hi,y1,y2,y3,y4,by omega,by omega,by omega,by omega,rfl,decide_eq_true (by omega),trivial⟩ (iM l ty _) rfl fun g=>aH.ret (zr l ty _ g) ?_
     rw[hf]
     rfl
    | true=>
     have hq:=(cmpV_neg oky.1 okx.1).2 hlt
     cases hc:decide (((bN (l.getD i zn).pre (l.getD (i+1) zn).pre:Nat):Int)≥if (l.getD (i+1) zn).len<(l.getD i zn).len then (l.getD (i+1) zn).len else (l.getD i zn).len) with
     | true=>
      have hf:bC l=false:=hfalse (i+1) (by omega) (by
       rw[ap2];unfold oG
       rw[decide_eq_true_eq] at hc
       rw[decide_eq_false (by omega),Bool.and_false,Bool.and_false])
      refine Runs.au aj mixed (cl l n c ty _ _ (cmpV (l.getD i zn).pre (l.getD (i+1) zn).pre) _ _ _ g) ⟨decide_eq_true (by omega),x1,x2,x3,x4,okx.1,by rw[hg],decide_eq_true (by omega),hi,y1,y2,y3,y4,by omega,by omega,by omega,by omega,rfl,decide_eq_false (by omega),oky.1,okx.1,rfl,hc,trivial⟩ (iM l ty _) rfl fun g=>aH.ret (zr l ty _ g) ?_
      rw[hf]
      rfl
     | false=>
      refine Runs.au aj mixed (stp l n c ty _ _ (cmpV (l.getD i zn).pre (l.getD (i+1) zn).pre) _ ((i+2:Nat):Int) _ _ g) ⟨decide_eq_true (by omega),x1,x2,x3,x4,okx.1,by rw[hg],decide_eq_true (by omega),hi,y1,y2,y3,y4,by omega,by omega,by omega,by omega,rfl,decide_eq_false (by omega),oky.1,okx.1,rfl,hc,by rw[IntKind.wrap_i64];omega,trivial⟩ (dh l n c ty _) rfl fun g=> ?_
      refine⟨i+2,g,rfl,rfl,⟨by omega,?_⟩,by omega⟩
      rw[ap2,hg];unfold oG
      rw[decide_eq_false_iff_not] at hc
      rw[hlt,decide_eq_true (by omega)]
      rfl
def spec:List aU→Option (SV × dH × Cst)
 | [.winv _ vs n ty]=>some (aI.enc (bC (ak vs)),.none,[vs=ah (ak vs),(ak vs).length=n,n<bK,bg (ak vs)])
 | [.val (.o (.a (.v (.slice a 0 0))))]=>some (aI.enc true,.none,[])
 | _=>none
noncomputable def con:Con Tryd.prog GT:=Con.parts aj 35 fn Tryd.func35 (by kernel_rfl) (c:=body) (by kernel_rfl) [.winv 65] spec
 (fun ps r e p h hp=>by
  unfold spec at h
  split at h<;>cases h
  ·exact⟨rfl,fun b hb=>by simp only[bf,aU.blk,List.append_nil,List.nil_append,List.mem_singleton] at hb;rw[hb]⟩
  ·exact⟨rfl,fun b hb=>by simp[bf,aU.blk] at hb⟩)
 (fun ps r e p cap h hp hi=>by
  unfold spec at h
  split at h<;>cases h
  ·rename_i s vs n ty
   obtain⟨p1,p2,p3,p4,_⟩:=hp
   have q:=run (ak vs) n (cap 0) ty p2 p3 p4
   rw[←p1] at q
   exact q
  ·exact mq aj mixed (by kernel_rfl) (nil _) trivial)
end tap
namespace rap
theorem nil (a:Option Addr):gK Γ tys fn 100 [.o (.a (.v (.slice a 0 0)))] []=some (aI.enc true,[]):=by kernel_rfl
theorem run (l:List Nd) (n c:Nat) (ty:TypeId) (hn:l.length=n) (hm:n<bK) (hok:bg l):aF Tryd.prog GT 1 body (aK fn [.o (.a (.sld 0 0 0 n c))]) [⟨false,ty,.prv (ah l)⟩] (aH tys fn (bJ (aI.enc (bC l)) .none)):=by
 unfold bK at hm
 have hl:(ah l).length=n*65:=by rw[←hn];exact bH l
 have hfalse:∀j,j<n→apN l (j+1)=false→bC l=false:=fun j hj h=>vN h _ (by omega)
 have ldx:∀j,j<n→0≤(j:Int)∧(j:Int)<n∧0+aN 0 (j:Int) 65+65≤(ah l).length∧SV.o (.g (bn (ah l) (0+aN 0 (j:Int) 65) 65))=cNd.enc (l.getD j zn):=fun j hj=>by
  have hb:j*65+65≤n*65:=by have:=Nat.mul_le_mul_right 65 (show j+1≤n by omega);omega
  refine⟨by omega,by omega,by rw[offs,hl];omega,by rw[offs];exact ld_nd l (by omega)⟩
 refine Runs.dz aj mixed 1 (s0 l n c ty) trivial (fO l n c ty) rfl fun g=> ?_
 rw[dJ]
 refine Runs.seq (Runs.seq (Runs.au aj mixed (a1 l n c ty g) trivial (dh l n c ty 0) rfl fun g=> ?_))
 refine Runs.block ?_
 refine Runs.dA (fun(j:Nat)=>M1 n c (j:Int)) (fun _=>mem l ty) (fun j=>j≤n∧apN l j=true) (fun j=>n-j) ?_ 0 ⟨Nat.zero_le _,rfl⟩ g
 rintro j g ⟨hj,ha⟩
 by_cases hjn:j=n
 ·refine Runs.au aj mixed (out l n c ty _ g) ⟨decide_eq_false (by omega),trivial⟩ (fO l n c ty) rfl fun g=> ?_
  show aF _ _ _ _ _ _ _
  refine Runs.au aj mixed (fin l n c ty g) trivial (iM l ty _) rfl fun g=>aH.ret (zr l ty _ g) ?_
  have:bC l=true:=by unfold bC;rw[hn,←hjn];exact ha
  rw[this]
  rfl
 ·obtain⟨x1,x2,x3,x4⟩:=ldx j (by omega)
  have okx:=hok.at (show j<l.length by omega)
  cases hg:gD (l.getD j zn) with
  | false=>
   have hf:bC l=false:=hfalse j (by omega) (by
    cases j with
    | zero=>rw[apN];exact hg
    | succ j=>rw[apN,hg,Bool.false_and,Bool.and_false])
   refine Runs.au aj mixed (bad l n c ty _ _ g) ⟨decide_eq_true (by omega),x1,x2,x3,x4,okx.1,by rw[hg],trivial⟩ (iM l ty _) rfl fun g=>aH.ret (zr l ty _ g) ?_
   rw[hf]
   rfl
  | true=>
   cases j with
   | zero=>
    refine Runs.au aj mixed (stp0 l n c ty _ g) ⟨decide_eq_true x2,x1,x2,x3,x4,okx.1,by rw[hg],trivial⟩ (dh l n c ty _) rfl fun g=> ?_
    exact⟨1,g,rfl,rfl,⟨by omega,by rw[apN];exact hg⟩,by omega⟩
   | succ i=>
    obtain⟨y1,y2,y3,y4⟩:=ldx i (by omega)
    have oky:=hok.at (show i<l.length by omega)
    have hi:IntKind.i64.wrap (((i+1:Nat):Int)-1)=(i:Int):=by rw[IntKind.wrap_i64];omega
    have ap2:apN l (i+2)=(gD (l.getD (i+1) zn)&&oG (l.getD i zn) (l.getD (i+1) zn)):=by rw[apN,ha,Bool.true_and]
    have hj0:((((i+1:Nat):Int))==0)=false:=by rw[←Bool.not_eq_true,beq_iff_eq];omega
    have gx:=(rE _).1 hg
    have gy:nU (l.getD i zn):=((apN_iff l (i+1) (by omega)).1 ha).1 i (by omega)
    cases hlt:ltV (l.getD i zn).pre (l.getD (i+1) zn).pre with
    | false=>
     have hf:bC l=false:=hfalse (i+1) (by omega) (by rw[ap2];unfold oG;rw[hlt,Bool.false_and,Bool.and_false])
     refine Runs.au aj mixed (lo l n c ty _ _ _ _ g) ⟨decide_eq_true (by omega),x1,x2,x3,x4,okx.1,by rw[hg],hj0,hi,y1,y2,y3,y4,x1,x2,x3,x4,oky.1,okx.1,by rw[hlt],trivial⟩ (iM l ty _) rfl fun g=>aH.ret (zr l ty _ g) ?_
     rw[hf]
     rfl
    | true=>
     have m0:0≤(if (l.getD (i+1) zn).len<(l.getD i zn).len then (l.getD (i+1) zn).len else (l.getD i zn).len):=by have:=gx.lo;have:=gy.lo;split<;>omega
     have m1:(if (l.getD (i+1) zn).len<(l.getD i zn).len then (l.getD (i+1) zn).len else (l.getD i zn).len)≤256:=by have:=gx.hi;have:=gy.hi;split<;>omega
     generalize hM:(if (l.getD (i+1) zn).len<(l.getD i zn).len then (l.getD (i+1) zn).len else (l.getD i zn).len)=M at m0 m1
     cases hc:(((min M.toNat (bN (l.getD i zn).pre (l.getD (i+1) zn).pre):Nat):Int)==M) with
     | true=>
      have hf:bC l=false:=hfalse (i+1) (by omega) (by
       rw[ap2];unfold oG
       rw[beq_iff_eq] at hc
       rw[hM,decide_eq_false (by omega),Bool.and_false,Bool.and_false])
      refine Runs.au aj mixed (cl l n c ty _ _ _ _ _ g) ⟨decide_eq_true (by omega),x1,x2,x3,x4,okx.1,by rw[hg],hj0,hi,y1,y2,y3,y4,x1,x2,x3,x4,oky.1,okx.1,by rw[hlt],oky.1,okx.1,by rw[hM];exact m0,by rw[hM];exact m1,by rw[hM],by rw[hM];exact hc,trivial⟩ (iM l ty _) rfl fun g=>aH.ret (zr l ty _ g) ?_
      rw[hf]
      rfl
     | false=>
      refine Runs.au aj mixed (stp l n c ty _ _ _ ((i+2:Nat):Int) _ _ g) ⟨decide_eq_true (by omega),x1,x2,x3,x4,okx.1,by rw[hg],hj0,hi,y1,y2,y3,y4,x1,x2,x3,x4,oky.1,okx.1,by rw[hlt],oky.1,okx.1,by rw[hM];exact m0,by rw[hM];exact m1,by rw[hM],by rw[hM];exact hc,by rw[IntKind.wrap_i64];omega,trivial⟩ (dh l n c ty _) rfl fun g=> ?_
      refine⟨i+2,g,rfl,rfl,⟨by omega,?_⟩,by omega⟩
      rw[ap2,hg];unfold oG
      rw[←Bool.not_eq_true,beq_iff_eq] at hc
      rw[hlt,hM,decide_eq_true (by omega)]
      rfl
def spec:List aU→Option (SV × dH × Cst)
 | [.winv _ vs n ty]=>some (aI.enc (bC (ak vs)),.none,[vs=ah (ak vs),(ak vs).length=n,n<bK,bg (ak vs)])
 | [.val (.o (.a (.v (.slice a 0 0))))]=>some (aI.enc true,.none,[])
 | _=>none
noncomputable def con:Con Tryd.prog GT:=Con.parts aj 36 fn Tryd.func36 (by kernel_rfl) (c:=body) (by kernel_rfl) [.winv 65] spec
 (fun ps r e p h hp=>by
  unfold spec at h
  split at h<;>cases h
  ·exact⟨rfl,fun b hb=>by simp only[bf,aU.blk,List.append_nil,List.nil_append,List.mem_singleton] at hb;rw[hb]⟩
  ·exact⟨rfl,fun b hb=>by simp[bf,aU.blk] at hb⟩)
 (fun ps r e p cap h hp hi=>by
  unfold spec at h
  split at h<;>cases h
  ·rename_i s vs n ty
   obtain⟨p1,p2,p3,p4,_⟩:=hp
   have q:=run (ak vs) n (cap 0) ty p2 p3 p4
   rw[←p1] at q
   exact q
  ·exact mq aj mixed (by kernel_rfl) (nil _) trivial)
end rap
structure MonoB (l:List Nd) (v k:Nat):Prop where
 le:k≤l.length
 no:∀i,i<k→bQ (l.getD i zn).pre v=false
 yes:∀i,k≤i→i<l.length→bQ (l.getD i zn).pre v=true
def cloSpec (i:Int) (x:CloA):Option (SV × Cst):=some (aI.enc (bQ ((ak x.ys).getD i.toNat zn).pre x.v.toNat),[x.ys=ah (ak x.ys),(ak x.ys).length=x.n,0≤i,i<x.n,0≤x.v,x.v<256,bg (ak x.ys)])
def seaSpec (N:Int) (x:CloA):Option (SV × Cst):=some ((aQ .i64).enc (aR (ak x.ys) x.v.toNat:Nat),[x.ys=ah (ak x.ys),(ak x.ys).length=x.n,N=x.n,x.n<bK,0≤x.v,x.v<256,bg (ak x.ys),MonoB (ak x.ys) x.v.toNat (aR (ak x.ys) x.v.toNat)])
namespace clo
noncomputable abbrev fn:=Tryd.f92
noncomputable def body:Code:=d9 fn
noncomputable def Γ:Cons Tryd.prog GT:=[tbit.con]
def M (l:List Nd) (n c:Nat) (v:Int) (t0 t1 ty:TypeId) (r:Bool):List (Option SV):=aD 12 0 [(4,.o (.a (fH r)))]
section
variable (l:List Nd) (n c:Nat) (v:Int) (t0 t1 ty:TypeId)
def mem:List Blk:=cloB ⟨ah l,n,c,v⟩ t0 t1 ty
theorem ids (r:Bool):oI (M l n c v t0 t1 ty r) (mem l n c v t0 t1 ty):=by delta oI;kernel_rfl
theorem s (i:Int) (x:B32) (r:Bool):oX Γ 300 body (aK fn [.o (.a (aG .i64 i)),.o (.a (.ptr 0 0)),.o (.a (.ptr 1 0))]) (mem l n c v t0 t1 ty) [(9,[.ds (ay.enc x)]),(11,[.s (aI.enc r)])] .ret (M l n c v t0 t1 ty r) (mem l n c v t0 t1 ty) [0≤i,i<n,0+(aN 0 i 65+1)+32≤(ah l).length,SV.o (.g (bn (ah l) (0+(aN 0 i 65+1)) 32))=ay.enc x,0≤v,v<256,BOk x,aI.enc (bQ x v.toNat)=aI.enc r]:=by delta oX;kernel_rfl
theorem zr (r:Bool) (g:Nat→SV):eRes tys (fill g 0 (M l n c v t0 t1 ty r)) (fun k=>(mem l n c v t0 t1 ty )[k]?) fn.results.toList=some [.a (fH r)]:=by kernel_rfl
end
theorem run (l:List Nd) (n c:Nat) (v i:Int) (t0 t1 ty:TypeId) (hn:l.length=n) (h0:0≤i) (h1:i<n) (v0:0≤v) (v1:v<256) (hok:bg l):
  aF Tryd.prog GT 3 body (aK fn [.o (.a (aG .i64 i)),.o (.a (.ptr 0 0)),.o (.a (.ptr 1 0))]) (mem l n c v t0 t1 ty) (aH tys fn (bJ (aI.enc (bQ (l.getD i.toNat zn).pre v.toNat)) .none)):=by
 obtain⟨k,rfl⟩:=Int.eq_ofNat_of_zero_le h0
 have hk:k<l.length:=by omega
 have hl:(ah l).length=n*65:=by rw[←hn];exact bH l
 have hb:k*65+65≤n*65:=by have:=Nat.mul_le_mul_right 65 (show k+1≤n by omega);omega
 have ho:0+(aN 0 (k:Int) 65+1)=k*65+1:=by rw[kY];simp
 have okx:=hok.at hk
 exact Runs.au aj mixed (s l n c v t0 t1 ty k (l.getD k zn).pre _) ⟨h0,h1,by rw[ho,hl];omega,by rw[ho];exact ld_pre l hk,v0,v1,okx.1,rfl,trivial⟩ (ids _ _ _ _ _ _ _ _) rfl fun g=>aH.ret (zr _ _ _ _ _ _ _ _ g) rfl
noncomputable def con:Con Tryd.prog GT:=Con.clo aj 92 fn Tryd.func92 (by kernel_rfl) (c:=body) (by kernel_rfl) 65 CloP.lit cloSpec (fun a x r p h=>by cases h;rfl)
 (fun a x t0 t1 ty r p h hp hl=>by
  cases h
  obtain⟨p1,p2,p3,p4,p5,p6,p7,_⟩:=hp
  obtain⟨ys,n,c,v⟩:=x
  simp only at p1 p2 p3 p4 p5 p6 p7
  have q:=run (ak ys) n c v a t0 t1 ty p2 p3 p4 p5 p6 p7
  unfold mem at q
  rw[←p1] at q
  exact q)
end clo
namespace sea
noncomputable abbrev fn:=Tryd.f91
noncomputable def body:Code:=d9 fn
noncomputable def D:Code:=cs2 (bM 2 body)
noncomputable def Γ:Cons Tryd.prog GT:=[clo.con]
theorem dJ:bM 2 body= .seq (.block 0 (.loop (cL (cB (cs1 (bM 2 body)))))) D:=by kernel_rfl
noncomputable def LB:Code:=cL (cB (cs1 (bM 2 body)))
def M (l:List Nd) (n c:Nat) (v:Int) (t0 t1 ty:TypeId) (i j:Int):List (Option SV):=aD 26 0 [(1,.o (.a (.fn 92 [(0,0),(1,0)]))),(5,.o (.a (aG .i64 i))),(6,.o (.a (aG .i64 j)))]
def MZ (r:Int):List (Option SV):=aD 26 0 [(4,.o (.a (aG .i64 r)))]
section
variable (l:List Nd) (n c:Nat) (v:Int) (t0 t1 ty:TypeId)
def mem:List Blk:=cloB ⟨ah l,n,c,v⟩ t0 t1 ty
theorem ids (i j:Int):oI (M l n c v t0 t1 ty i j) (mem l n c v t0 t1 ty):=by delta oI;kernel_rfl
theorem iM (r:Int):oI (MZ r) (mem l n c v t0 t1 ty):=by delta oI;kernel_rfl
theorem s0 (N:Int):oX Γ 300 (eD 2 body) (aK fn [.o (.a (aG .i64 N)),.o (.a (.fn 92 [(0,0),(1,0)]))]) (mem l n c v t0 t1 ty) [] .normal (M l n c v t0 t1 ty 0 N) (mem l n c v t0 t1 ty) []:=by delta oX;kernel_rfl
theorem lo (i j s h h':Int) (g:Nat→SV):oX Γ 300 LB (fill g 0 (M l n c v t0 t1 ty i j)) (mem l n c v t0 t1 ty) [(11,[.b true]),(14,[.n s]),(15,[.n s]),(16,[.n h]),(17,[.n h]),(20,[.s (aI.enc false)]),(23,[.n h'])] .normal (M l n c v t0 t1 ty h' j) (mem l n c v t0 t1 ty) [decide (i<j)=true,IntKind.i64.wrap (i+j)=s,IntKind.u64.wrap s=s,s.fdiv (2^1)=h,IntKind.i64.wrap h=h,0+0+n*65≤(ah l).length,((ah l).drop (0+0)).take (n*65)=ah (ak (((ah l).drop (0+0)).take (n*65))),(ak (((ah l).drop (0+0)).take (n*65))).length=n,0≤h,h<n,0≤v,v<256,bg (ak (((ah l).drop (0+0)).take (n*65))),aI.enc (bQ ((ak (((ah l).drop (0+0)).take (n*65))).getD h.toNat zn).pre v.toNat)=aI.enc false,IntKind.i64.wrap (h+1)=h']:=by delta oX;kernel_rfl
theorem hi (i j s h:Int) (g:Nat→SV):oX Γ 300 LB (fill g 0 (M l n c v t0 t1 ty i j)) (mem l n c v t0 t1 ty) [(11,[.b true]),(14,[.n s]),(15,[.n s]),(16,[.n h]),(17,[.n h]),(20,[.s (aI.enc true)])] .normal (M l n c v t0 t1 ty i h) (mem l n c v t0 t1 ty) [decide (i<j)=true,IntKind.i64.wrap (i+j)=s,IntKind.u64.wrap s=s,s.fdiv (2^1)=h,IntKind.i64.wrap h=h,0+0+n*65≤(ah l).length,((ah l).drop (0+0)).take (n*65)=ah (ak (((ah l).drop (0+0)).take (n*65))),(ak (((ah l).drop (0+0)).take (n*65))).length=n,0≤h,h<n,0≤v,v<256,bg (ak (((ah l).drop (0+0)).take (n*65))),aI.enc (bQ ((ak (((ah l).drop (0+0)).take (n*65))).getD h.toNat zn).pre v.toNat)=aI.enc true]:=by delta oX;kernel_rfl
theorem out (i j:Int) (g:Nat→SV):oX Γ 300 LB (fill g 0 (M l n c v t0 t1 ty i j)) (mem l n c v t0 t1 ty) [(11,[.b false])] (.exit 0) (M l n c v t0 t1 ty i j) (mem l n c v t0 t1 ty) [decide (i<j)=false]:=by delta oX;kernel_rfl
theorem fin (i j:Int) (g:Nat→SV):oX Γ 300 D (fill g 0 (M l n c v t0 t1 ty i j)) (mem l n c v t0 t1 ty) [] .ret (MZ i) (mem l n c v t0 t1 ty) []:=by delta oX;kernel_rfl
theorem zr (r:Int) (g:Nat→SV):eRes tys (fill g 0 (MZ r)) (fun k=>(mem l n c v t0 t1 ty )[k]?) fn.results.toList=some [.a (aG .i64 r)]:=by kernel_rfl
end
end sea
theorem dtn {l:List Nd} {n:Nat} (h:l.length=n):((ah l).drop (0+0)).take (n*65)=ah l:=by
 rw[Nat.add_zero,List.drop_zero,List.take_of_length_le (by rw[bH,h];omega)]
namespace sea
theorem run (l:List Nd) (n c k:Nat) (v:Int) (t0 t1 ty:TypeId) (hn:l.length=n) (hm:n<bK) (v0:0≤v) (v1:v<256) (hok:bg l) (hk:MonoB l v.toNat k):
  aF Tryd.prog GT 3 body (aK fn [.o (.a (aG .i64 (n:Int))),.o (.a (.fn 92 [(0,0),(1,0)]))]) (mem l n c v t0 t1 ty) (aH tys fn (bJ ((aQ .i64).enc (k:Nat)) .none)):=by
 unfold bK at hm
 have hl:(ah l).length=n*65:=by rw[←hn];exact bH l
 have hY:=dtn hn
 have hk1:=hk.le
 refine Runs.dz aj mixed 2 (s0 l n c v t0 t1 ty n) trivial (ids _ _ _ _ _ _ _ _ _) rfl fun g=> ?_
 rw[dJ]
 refine Runs.seq (Runs.block ?_)
 refine Runs.dA (fun(x:Nat × Nat)=>M l n c v t0 t1 ty (x.1:Int) (x.2:Int)) (fun _=>mem l n c v t0 t1 ty) (fun x=>x.1≤k∧k≤x.2∧x.2≤n) (fun x=>x.2-x.1) ?_ (0,n) ⟨Nat.zero_le _,by omega,Nat.le_refl _⟩ g
 rintro⟨i,j⟩ g ⟨h1,h2,h3⟩
 simp only at h1 h2 h3
 rcases Nat.lt_or_ge i j with hij | hij
 ·have f1:IntKind.i64.wrap ((i:Int)+(j:Int))=((i+j:Nat):Int):=by rw[IntKind.wrap_i64];omega
  have f2:IntKind.u64.wrap ((i+j:Nat):Int)=((i+j:Nat):Int):=by rw[IntKind.wrap_u64];omega
  have f3:((i+j:Nat):Int).fdiv (2^1)=(((i+j)/2:Nat):Int):=by rw[Int.fdiv_eq_ediv_of_nonneg _ (by decide)];omega
  have f4:IntKind.i64.wrap (((i+j)/2:Nat):Int)=(((i+j)/2:Nat):Int):=by rw[IntKind.wrap_i64];omega
  have hh:(i+j)/2<n:=by omega
  have rest:∀b,bQ (l.getD ((i+j)/2) zn).pre v.toNat=b→aI.enc (bQ ((ak (((ah l).drop (0+0)).take (n*65))).getD (((i+j)/2:Nat):Int).toNat zn).pre v.toNat)=aI.enc b:=fun b hb=>by
   rw[hY,bE,Int.toNat_natCast,hb]
  have pr:(((ah l).drop (0+0)).take (n*65))=ah (ak (((ah l).drop (0+0)).take (n*65)))∧(ak (((ah l).drop (0+0)).take (n*65))).length=n∧bg (ak (((ah l).drop (0+0)).take (n*65))):=by
   rw[hY,bE];exact⟨rfl,hn,hok⟩
  cases hb:bQ (l.getD ((i+j)/2) zn).pre v.toNat with
  | false=>
   have hlt:(i+j)/2<k:=by
    rcases Nat.lt_or_ge ((i+j)/2) k with q | q
    ·exact q
    ·rw[hk.yes _ q (by omega)] at hb;cases hb
   refine Runs.au aj mixed (lo l n c v t0 t1 ty _ _ _ _ (((i+j)/2+1:Nat):Int) g) ⟨decide_eq_true (by omega),f1,f2,f3,f4,by omega,pr.1,pr.2.1,by omega,by omega,v0,v1,pr.2.2,rest _ hb,by rw[IntKind.wrap_i64];omega,trivial⟩ (ids _ _ _ _ _ _ _ _ _) rfl fun g=> ?_
   exact⟨((i+j)/2+1,j),g,rfl,rfl,⟨by simp only;omega,by simp only;omega,by simp only;omega⟩,by simp only;omega⟩
  | true=>
   have hge:k≤(i+j)/2:=by
    rcases Nat.lt_or_ge ((i+j)/2) k with q | q
    ·rw[hk.no _ q] at hb;cases hb
    ·exact q
   refine Runs.au aj mixed (hi l n c v t0 t1 ty _ _ _ _ g) ⟨decide_eq_true (by omega),f1,f2,f3,f4,by omega,pr.1,pr.2.1,by omega,by omega,v0,v1,pr.2.2,rest _ hb,trivial⟩ (ids _ _ _ _ _ _ _ _ _) rfl fun g=> ?_
   exact⟨(i,(i+j)/2),g,rfl,rfl,⟨by simp only;omega,by simp only;omega,by simp only;omega⟩,by simp only;omega⟩
 ·refine Runs.au aj mixed (out l n c v t0 t1 ty _ _ g) ⟨decide_eq_false (by omega),trivial⟩ (ids _ _ _ _ _ _ _ _ _) rfl fun g=> ?_
  show aF _ _ _ _ _ _ _
  refine Runs.au aj mixed (fin l n c v t0 t1 ty _ _ g) trivial (iM _ _ _ _ _ _ _ _) rfl fun g=>aH.ret (zr _ _ _ _ _ _ _ _ g) ?_
  rw[show i=k by omega]
  rfl
noncomputable def con:Con Tryd.prog GT:=Con.clo aj 91 fn Tryd.func91 (by kernel_rfl) (c:=body) (by kernel_rfl) 65 (CloP.fn 92) seaSpec (fun a x r p h=>by cases h;rfl)
 (fun a x t0 t1 ty r p h hp hl=>by
  cases h
  obtain⟨p1,p2,p3,p4,p5,p6,p7,p8,_⟩:=hp
  obtain⟨ys,n,c,v⟩:=x
  simp only at p1 p2 p3 p4 p5 p6 p7 p8
  subst p3
  have q:=run (ak ys) n c _ v t0 t1 ty p2 p4 p5 p6 p7 p8
  unfold mem at q
  rw[←p1] at q
  exact q)
end sea
namespace spl
noncomputable abbrev fn:=Tryd.f79
noncomputable def body:Code:=d9 fn
noncomputable def Γ:Cons Tryd.prog GT:=[tcom.con,sea.con]
def M (l:List Nd) (n c:Nat) (ty:TypeId) (k o:Nat):List (Option SV):=aD 29 0 [(2,.o (.a (.sld 0 0 0 k c))),(3,.o (.a (.sld 0 0 o (n-k) (c-k)))),(4,.o (.a (.ptr 2 0)))]
section
variable (l:List Nd) (n c:Nat) (ty:TypeId)
def mem (v:Int):List Blk:=[⟨false,ty,.prv (ah l)⟩,⟨true,36,.lit [.sld 0 0 0 n c]⟩,⟨true,3,.lit [aG .i64 v]⟩]
theorem ids (k o:Nat) (v:Int):oI (M l n c ty k o) (mem l n c ty v):=by delta oI;kernel_rfl
theorem s (k o:Nat) (m v:Int) (a b:B32):oX Γ 300 body (aK fn [.o (.a (.sld 0 0 0 n c))]) [⟨false,ty,.prv (ah l)⟩] [(9,[.ds (ay.enc a)]),(13,[.n m]),(16,[.ds (ay.enc b)]),(17,[.s (.o (.a (aG .i64 v)))]),(21,[.s (.o (.a (aG .i64 (k:Int))))]),(27,[.s (.o (.a (.sld 0 0 o (n-k) (c-k))))])] .ret (M l n c ty k o) (mem l n c ty v) [0≤(0:Int),(0:Int)<n,0+(aN 0 (0:Int) 65+1)+32≤(ah l).length,SV.o (.g (bn (ah l) (0+(aN 0 (0:Int) 65+1)) 32))=ay.enc a,IntKind.i64.wrap ((n:Int)-1)=m,0≤m,m<n,0+(aN 0 m 65+1)+32≤(ah l).length,SV.o (.g (bn (ah l) (0+(aN 0 m 65+1)) 32))=ay.enc b,BOk a,BOk b,(aQ .i64).enc (bN a b:Nat)=(aQ .i64).enc v,0+0+n*65≤(ah l).length,((ah l).drop (0+0)).take (n*65)=ah (ak (((ah l).drop (0+0)).take (n*65))),(ak (((ah l).drop (0+0)).take (n*65))).length=n,(n:Int)=n,n<bK,0≤v,v<256,bg (ak (((ah l).drop (0+0)).take (n*65))),MonoB (ak (((ah l).drop (0+0)).take (n*65))) v.toNat (aR (ak (((ah l).drop (0+0)).take (n*65))) v.toNat),(aQ .i64).enc (aR (ak (((ah l).drop (0+0)).take (n*65))) v.toNat:Nat)=(aQ .i64).enc (k:Int),0≤(0:Int),(0:Int)≤k,(k:Int)≤c,0≤(k:Int),(k:Int)≤n,(n:Int)≤c,SV.o (.a (.sld 0 0 (iU c k 0 65) (n-k) (c-k)))=SV.o (.a (.sld 0 0 o (n-k) (c-k)))]:=by delta oX;kernel_rfl
theorem zr (k o:Nat) (v:Int) (g:Nat→SV):eRes tys (fill g 0 (M l n c ty k o)) (fun k=>(mem l n c ty v)[k]?) fn.results.toList=some [.a (.sld 0 0 0 k c),.a (.sld 0 0 o (n-k) (c-k)),.a (aG .i64 v)]:=by kernel_rfl
end
end spl
namespace hlv
noncomputable abbrev fn:=Tryd.f82
noncomputable def body:Code:=d9 fn
noncomputable def LB:Code:=cL (cB (cs1 (bM 2 body)))
noncomputable def D:Code:=cs2 (bM 2 body)
noncomputable def Γ:Cons Tryd.prog GT:=[rbit.con]
theorem dJ:bM 2 body= .seq (.block 0 (.loop LB)) D:=by kernel_rfl
def M (l:List Nd) (n c:Nat) (ty:TypeId) (v:Int) (i:Int):List (Option SV):=aD 29 0 [(0,.o (.a (.sld 0 0 0 n c))),(1,.o (.a (aG .i64 v))),(6,.o (.a (aG .i64 i)))]
def MZ (n c:Nat) (k o:Nat):List (Option SV):=aD 29 0 [(4,.o (.a (.sld 0 0 0 k c))),(5,.o (.a (.sld 0 0 o (n-k) (c-k))))]
section
variable (l:List Nd)
def mem (ty:TypeId):List Blk:=[⟨false,ty,.prv (ah l)⟩]
theorem ids (n c:Nat) (ty:TypeId) (v:Int) (i:Int):oI (M l n c ty v i) (mem l ty):=by delta oI;kernel_rfl
theorem iM (n c:Nat) (ty:TypeId) (k o:Nat):oI (MZ n c k o) (mem l ty):=by delta oI;kernel_rfl
theorem s0 (n c:Nat) (ty:TypeId) (v:Int):oX Γ 300 (eD 2 body) (aK fn [.o (.a (.sld 0 0 0 n c)),.o (.a (aG .i64 v))]) (mem l ty) [] .normal (M l n c ty v 0) (mem l ty) []:=by delta oX;kernel_rfl
theorem stp (n c:Nat) (ty:TypeId) (v:Int) (i j y:Int) (x:B32) (g:Nat→SV):oX Γ 300 LB (fill g 0 (M l n c ty v i)) (mem l ty) [(10,[.b true]),(16,[.ds (ay.enc x)]),(18,[.s (.o (.a (aG .u8 y)))]),(19,[.b true]),(22,[.n j])] .normal (M l n c ty v j) (mem l ty) [decide (i<n)=true,0≤i,i<n,0+(aN 0 i 65+1)+32≤(ah l).length,SV.o (.g (bn (ah l) (0+(aN 0 i 65+1)) 32))=ay.enc x,0≤v,v<256,BOk x,(aQ .u8).enc (jS x v.toNat)=(aQ .u8).enc y,(y==0)=true,IntKind.i64.wrap (i+1)=j]:=by delta oX;kernel_rfl
theorem hit (n c:Nat) (ty:TypeId) (v:Int) (i y:Int) (x:B32) (g:Nat→SV):oX Γ 300 LB (fill g 0 (M l n c ty v i)) (mem l ty) [(10,[.b true]),(16,[.ds (ay.enc x)]),(18,[.s (.o (.a (aG .u8 y)))]),(19,[.b false])] (.exit 0) (M l n c ty v i) (mem l ty) [decide (i<n)=true,0≤i,i<n,0+(aN 0 i 65+1)+32≤(ah l).length,SV.o (.g (bn (ah l) (0+(aN 0 i 65+1)) 32))=ay.enc x,0≤v,v<256,BOk x,(aQ .u8).enc (jS x v.toNat)=(aQ .u8).enc y,(y==0)=false]:=by delta oX;kernel_rfl
theorem fin (n c:Nat) (ty:TypeId) (v:Int) (k o:Nat) (g:Nat→SV):oX Γ 300 D (fill g 0 (M l n c ty v (k:Int))) (mem l ty) [(28,[.s (.o (.a (.sld 0 0 o (n-k) (c-k))))])] .ret (MZ n c k o) (mem l ty) [0≤(0:Int),(0:Int)≤k,(k:Int)≤c,0≤(k:Int),(k:Int)≤n,(n:Int)≤c,SV.o (.a (.sld 0 0 (iU c k 0 65) (n-k) (c-k)))=SV.o (.a (.sld 0 0 o (n-k) (c-k)))]:=by delta oX;kernel_rfl
theorem zr (n c:Nat) (ty:TypeId) (k o:Nat) (g:Nat→SV):eRes tys (fill g 0 (MZ n c k o)) (fun k=>(mem l ty )[k]?) fn.results.toList=some [.a (.sld 0 0 0 k c),.a (.sld 0 0 o (n-k) (c-k))]:=by kernel_rfl
end
end hlv
end Go.Proofs.YtdccehmekkcheaaDoor
