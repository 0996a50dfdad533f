/- Packages tree, beaconref11: nodes that are apart: walks, contracts of both sides. -/
import Derived.Test.YtdccehmekkcheaaDoorBFo
import Derived.Test.YtdccehmekkcheaaDoorBTrK
namespace Go.Proofs.YtdccehmekkcheaaDoor
open Go Go.Eng Go.RowKit
set_option linter.unusedVariables false
set_option linter.unusedSimpArgs false
set_option maxRecDepth 100000
namespace tap
noncomputable abbrev fn:=Tryd.f35
noncomputable def body:Code:=bF fn
noncomputable def A1:Code:=cs1 (cs1 (csuf 1 body))
noncomputable def L:Code:=cL (cB (cs2 (cs1 (csuf 1 body))))
noncomputable def D:Code:=cs2 (csuf 1 body)
noncomputable def Γ:Cons Tryd.prog GT:=[tgood.con,bcmp.con,tcom.con]
theorem suf_eq:csuf 1 body= .seq (.seq A1 (.block 0 (.loop L))) D:=by kernel_rfl
def M0 (n c:Nat):List (Option SV):=aD 43 0 [(0,.o (.a (.sld 0 0 0 n c)))]
def M1 (n c:Nat) (j:Int):List (Option SV):=aD 43 0 [(0,.o (.a (.sld 0 0 0 n c))),(6,.o (.a (.sld 0 0 0 n c))),(7,.o (.a (int1 .i64 n))),(8,.o (.a (int1 .i64 j)))]
def MZ (r:Bool):List (Option SV):=aD 43 0 [(2,.o (.a (bool1 r)))]
section
variable (l:List Nd)
def mem (ty:TypeId):List Blk:=[⟨false,ty,.prv (ah l)⟩]
theorem ids0 (n c:Nat) (ty:TypeId):oI (M0 n c) (mem l ty):=by delta oI;kernel_rfl
theorem ids1 (n c:Nat) (ty:TypeId) (j:Int):oI (M1 n c j) (mem l ty):=by delta oI;kernel_rfl
theorem idsZ (ty:TypeId) (r:Bool):oI (MZ r) (mem l ty):=by delta oI;kernel_rfl
theorem s0 (n c:Nat) (ty:TypeId):oX Γ 300 (cpre 1 body) (aG fn [.o (.a (.sld 0 0 0 n c))]) (mem l ty) [] .normal (M0 n c) (mem l ty) []:=by delta oX;kernel_rfl
theorem a1 (n c:Nat) (ty:TypeId) (g:Nat→SV):oX Γ 300 A1 (fill g 0 (M0 n c )) (mem l ty) [] .normal (M1 n c 0) (mem l ty) []:=by delta oX;kernel_rfl
theorem bad (n c:Nat) (ty:TypeId) (j:Int) (x:Nd) (g:Nat→SV):oX Γ 300 L (fill g 0 (M1 n c j)) (mem l ty) [(9,[.b true]),(12,[.ds (cNd.enc x)]),(14,[.s (ay.enc false)])] .ret (MZ false) (mem l ty) [decide ((j:Int)<n)=true,0≤j,j<n,(0+offI 0 j 65)+65≤(ah l).length,SV.o (.g (aI (ah l) (0+offI 0 j 65) 65))=cNd.enc x,BOk x.pre,ay.enc (goodV x)=ay.enc false]:=by delta oX;kernel_rfl
theorem stp0 (n c:Nat) (ty:TypeId) (x:Nd) (g:Nat→SV):oX Γ 300 L (fill g 0 (M1 n c 0)) (mem l ty) [(9,[.b true]),(12,[.ds (cNd.enc x)]),(14,[.s (ay.enc true)])] .normal (M1 n c 1) (mem l ty) [decide ((0:Int)<n)=true,0≤(0:Int),(0:Int)<n,(0+offI 0 (0:Int) 65)+65≤(ah l).length,SV.o (.g (aI (ah l) (0+offI 0 (0:Int) 65) 65))=cNd.enc x,BOk x.pre,ay.enc (goodV x)=ay.enc true]:=by delta oX;kernel_rfl
theorem lo (n c:Nat) (ty:TypeId) (j i q:Int) (x y:Nd) (g:Nat→SV):oX Γ 300 L (fill g 0 (M1 n c j)) (mem l ty) [(9,[.b true]),(12,[.ds (cNd.enc x)]),(14,[.s (ay.enc true)]),(17,[.b true]),(20,[.n i]),(22,[.ds (cNd.enc y)]),(27,[.s (.o (.a (int1 .i64 q)))]),(28,[.b true])] .ret (MZ false) (mem l ty) [decide ((j:Int)<n)=true,0≤j,j<n,(0+offI 0 j 65)+65≤(ah l).length,SV.o (.g (aI (ah l) (0+offI 0 j 65) 65))=cNd.enc x,BOk x.pre,ay.enc (goodV x)=ay.enc true,decide (j>0)=true,IntKind.i64.wrap (j-1)=i,0≤i,i<n,(0+offI 0 i 65)+65≤(ah l).length,SV.o (.g (aI (ah l) (0+offI 0 i 65) 65))=cNd.enc y,0+32≤64,32≤32,0+32≤64,32≤32,(cInt .i64).enc (cmpI (y.pre.to) (x.pre.to))=(cInt .i64).enc q,decide (q≥0)=true]:=by delta oX;kernel_rfl
theorem cl (n c:Nat) (ty:TypeId) (j i q d:Int) (x y:Nd) (g:Nat→SV):oX Γ 300 L (fill g 0 (M1 n c j)) (mem l ty) [(9,[.b true]),(12,[.ds (cNd.enc x)]),(14,[.s (ay.enc true)]),(17,[.b true]),(20,[.n i]),(22,[.ds (cNd.enc y)]),(27,[.s (.o (.a (int1 .i64 q)))]),(28,[.b false]),(34,[.s (.o (.a (int1 .i64 d)))]),(40,[.b true])] .ret (MZ false) (mem l ty) [decide ((j:Int)<n)=true,0≤j,j<n,(0+offI 0 j 65)+65≤(ah l).length,SV.o (.g (aI (ah l) (0+offI 0 j 65) 65))=cNd.enc x,BOk x.pre,ay.enc (goodV x)=ay.enc true,decide (j>0)=true,IntKind.i64.wrap (j-1)=i,0≤i,i<n,(0+offI 0 i 65)+65≤(ah l).length,SV.o (.g (aI (ah l) (0+offI 0 i 65) 65))=cNd.enc y,0+32≤64,32≤32,0+32≤64,32≤32,(cInt .i64).enc (cmpI (y.pre.to) (x.pre.to))=(cInt .i64).enc q,decide (q≥0)=false,BOk y.pre,BOk x.pre,(cInt .i64).enc (comV y.pre x.pre:Nat)=(cInt .i64).enc d,decide (d≥(if x.len<y.len then x.len else y.len))=true]:=by delta oX;kernel_rfl
theorem stp (n c:Nat) (ty:TypeId) (j i q d j':Int) (x y:Nd) (g:Nat→SV):oX Γ 300 L (fill g 0 (M1 n c j)) (mem l ty) [(9,[.b true]),(12,[.ds (cNd.enc x)]),(14,[.s (ay.enc true)]),(17,[.b true]),(20,[.n i]),(22,[.ds (cNd.enc y)]),(27,[.s (.o (.a (int1 .i64 q)))]),(28,[.b false]),(34,[.s (.o (.a (int1 .i64 d)))]),(40,[.b false]),(42,[.n j'])] .normal (M1 n c j') (mem l ty) [decide ((j:Int)<n)=true,0≤j,j<n,(0+offI 0 j 65)+65≤(ah l).length,SV.o (.g (aI (ah l) (0+offI 0 j 65) 65))=cNd.enc x,BOk x.pre,ay.enc (goodV x)=ay.enc true,decide (j>0)=true,IntKind.i64.wrap (j-1)=i,0≤i,i<n,(0+offI 0 i 65)+65≤(ah l).length,SV.o (.g (aI (ah l) (0+offI 0 i 65) 65))=cNd.enc y,0+32≤64,32≤32,0+32≤64,32≤32,(cInt .i64).enc (cmpI (y.pre.to) (x.pre.to))=(cInt .i64).enc q,decide (q≥0)=false,BOk y.pre,BOk x.pre,(cInt .i64).enc (comV y.pre x.pre:Nat)=(cInt .i64).enc d,decide (d≥(if x.len<y.len then x.len else y.len))=false,IntKind.i64.wrap (j+1)=j']:=by delta oX;kernel_rfl
theorem out (n c:Nat) (ty:TypeId) (j:Int) (g:Nat→SV):oX Γ 300 L (fill g 0 (M1 n c j)) (mem l ty) [(9,[.b false])] (.exit 0) (M0 n c) (mem l ty) [decide (j<n)=false]:=by delta oX;kernel_rfl
theorem fin (n c:Nat) (ty:TypeId) (g:Nat→SV):oX Γ 300 D (fill g 0 (M0 n c )) (mem l ty) [] .ret (MZ true) (mem l ty) []:=by delta oX;kernel_rfl
theorem zr (ty:TypeId) (r:Bool) (g:Nat→SV):eRes tys (fill g 0 (MZ r)) (fun k=>(mem l ty )[k]?) fn.results.toList=some [.a (bool1 r)]:=by kernel_rfl
end
end tap
namespace rap
noncomputable abbrev fn:=Tryd.f36
noncomputable def body:Code:=bF fn
noncomputable def A1:Code:=cs1 (cs1 (csuf 1 body))
noncomputable def L:Code:=cL (cB (cs2 (cs1 (csuf 1 body))))
noncomputable def D:Code:=cs2 (csuf 1 body)
noncomputable def Γ:Cons Tryd.prog GT:=[rgood.con,blw.con,rcom.con]
theorem suf_eq:csuf 1 body= .seq (.seq A1 (.block 0 (.loop L))) D:=by kernel_rfl
def M0 (n c:Nat):List (Option SV):=aD 53 0 [(0,.o (.a (.sld 0 0 0 n c)))]
def M1 (n c:Nat) (j:Int):List (Option SV):=aD 53 0 [(0,.o (.a (.sld 0 0 0 n c))),(7,.o (.a (int1 .i64 n))),(8,.o (.a (int1 .i64 j)))]
def MZ (r:Bool):List (Option SV):=aD 53 0 [(2,.o (.a (bool1 r)))]
section
variable (l:List Nd)
def mem (ty:TypeId):List Blk:=[⟨false,ty,.prv (ah l)⟩]
theorem ids0 (n c:Nat) (ty:TypeId):oI (M0 n c) (mem l ty):=by delta oI;kernel_rfl
theorem ids1 (n c:Nat) (ty:TypeId) (j:Int):oI (M1 n c j) (mem l ty):=by delta oI;kernel_rfl
theorem idsZ (ty:TypeId) (r:Bool):oI (MZ r) (mem l ty):=by delta oI;kernel_rfl
theorem s0 (n c:Nat) (ty:TypeId):oX Γ 300 (cpre 1 body) (aG fn [.o (.a (.sld 0 0 0 n c))]) (mem l ty) [] .normal (M0 n c) (mem l ty) []:=by delta oX;kernel_rfl
theorem a1 (n c:Nat) (ty:TypeId) (g:Nat→SV):oX Γ 300 A1 (fill g 0 (M0 n c )) (mem l ty) [] .normal (M1 n c 0) (mem l ty) []:=by delta oX;kernel_rfl
theorem bad (n c:Nat) (ty:TypeId) (j:Int) (x:Nd) (g:Nat→SV):oX Γ 300 L (fill g 0 (M1 n c j)) (mem l ty) [(9,[.b true]),(14,[.ds (cNd.enc x)]),(15,[.s (ay.enc false)])] .ret (MZ false) (mem l ty) [decide ((j:Int)<n)=true,0≤j,j<n,(0+offI 0 j 65)+65≤(ah l).length,SV.o (.g (aI (ah l) (0+offI 0 j 65) 65))=cNd.enc x,BOk x.pre,ay.enc (goodV x)=ay.enc false]:=by delta oX;kernel_rfl
theorem stp0 (n c:Nat) (ty:TypeId) (x:Nd) (g:Nat→SV):oX Γ 300 L (fill g 0 (M1 n c 0)) (mem l ty) [(9,[.b true]),(14,[.ds (cNd.enc x)]),(15,[.s (ay.enc true)])] .normal (M1 n c 1) (mem l ty) [decide ((0:Int)<n)=true,0≤(0:Int),(0:Int)<n,(0+offI 0 (0:Int) 65)+65≤(ah l).length,SV.o (.g (aI (ah l) (0+offI 0 (0:Int) 65) 65))=cNd.enc x,BOk x.pre,ay.enc (goodV x)=ay.enc true]:=by delta oX;kernel_rfl
theorem lo (n c:Nat) (ty:TypeId) (j i:Int) (x y:Nd) (g:Nat→SV):oX Γ 300 L (fill g 0 (M1 n c j)) (mem l ty) [(9,[.b true]),(14,[.ds (cNd.enc x)]),(15,[.s (ay.enc true)]),(18,[.b false]),(21,[.n i]),(23,[.ds (cNd.enc y)]),(27,[.ds (cNd.enc x)]),(32,[.s (ay.enc false)])] .ret (MZ false) (mem l ty) [decide ((j:Int)<n)=true,0≤j,j<n,(0+offI 0 j 65)+65≤(ah l).length,SV.o (.g (aI (ah l) (0+offI 0 j 65) 65))=cNd.enc x,BOk x.pre,ay.enc (goodV x)=ay.enc true,(j==0)=false,IntKind.i64.wrap (j-1)=i,0≤i,i<n,(0+offI 0 i 65)+65≤(ah l).length,SV.o (.g (aI (ah l) (0+offI 0 i 65) 65))=cNd.enc y,0≤j,j<n,(0+offI 0 j 65)+65≤(ah l).length,SV.o (.g (aI (ah l) (0+offI 0 j 65) 65))=cNd.enc x,BOk y.pre,BOk x.pre,ay.enc (ltV y.pre x.pre)=ay.enc false]:=by delta oX;kernel_rfl
theorem cl (n c:Nat) (ty:TypeId) (j i d:Int) (x y:Nd) (g:Nat→SV):oX Γ 300 L (fill g 0 (M1 n c j)) (mem l ty) [(9,[.b true]),(14,[.ds (cNd.enc x)]),(15,[.s (ay.enc true)]),(18,[.b false]),(21,[.n i]),(23,[.ds (cNd.enc y)]),(27,[.ds (cNd.enc x)]),(32,[.s (ay.enc true)]),(44,[.s (.o (.a (int1 .i64 d)))]),(50,[.b true])] .ret (MZ false) (mem l ty) [decide ((j:Int)<n)=true,0≤j,j<n,(0+offI 0 j 65)+65≤(ah l).length,SV.o (.g (aI (ah l) (0+offI 0 j 65) 65))=cNd.enc x,BOk x.pre,ay.enc (goodV x)=ay.enc true,(j==0)=false,IntKind.i64.wrap (j-1)=i,0≤i,i<n,(0+offI 0 i 65)+65≤(ah l).length,SV.o (.g (aI (ah l) (0+offI 0 i 65) 65))=cNd.enc y,0≤j,j<n,(0+offI 0 j 65)+65≤(ah l).length,SV.o (.g (aI (ah l) (0+offI 0 j 65) 65))=cNd.enc x,BOk y.pre,BOk x.pre,ay.enc (ltV y.pre x.pre)=ay.enc true,BOk y.pre,BOk x.pre,0≤(if x.len<y.len then x.len else y.len),(if x.len<y.len then x.len else y.len)≤256,(cInt .i64).enc ((min ((if x.len<y.len then x.len else y.len)).toNat (comV y.pre x.pre):Nat):Int)=(cInt .i64).enc d,(d==(if x.len<y.len then x.len else y.len))=true]:=by delta oX;kernel_rfl
theorem stp (n c:Nat) (ty:TypeId) (j i d j':Int) (x y:Nd) (g:Nat→SV):oX Γ 300 L (fill g 0 (M1 n c j)) (mem l ty) [(9,[.b true]),(14,[.ds (cNd.enc x)]),(15,[.s (ay.enc true)]),(18,[.b false]),(21,[.n i]),(23,[.ds (cNd.enc y)]),(27,[.ds (cNd.enc x)]),(32,[.s (ay.enc true)]),(44,[.s (.o (.a (int1 .i64 d)))]),(50,[.b false]),(52,[.n j'])] .normal (M1 n c j') (mem l ty) [decide ((j:Int)<n)=true,0≤j,j<n,(0+offI 0 j 65)+65≤(ah l).length,SV.o (.g (aI (ah l) (0+offI 0 j 65) 65))=cNd.enc x,BOk x.pre,ay.enc (goodV x)=ay.enc true,(j==0)=false,IntKind.i64.wrap (j-1)=i,0≤i,i<n,(0+offI 0 i 65)+65≤(ah l).length,SV.o (.g (aI (ah l) (0+offI 0 i 65) 65))=cNd.enc y,0≤j,j<n,(0+offI 0 j 65)+65≤(ah l).length,SV.o (.g (aI (ah l) (0+offI 0 j 65) 65))=cNd.enc x,BOk y.pre,BOk x.pre,ay.enc (ltV y.pre x.pre)=ay.enc true,BOk y.pre,BOk x.pre,0≤(if x.len<y.len then x.len else y.len),(if x.len<y.len then x.len else y.len)≤256,(cInt .i64).enc ((min ((if x.len<y.len then x.len else y.len)).toNat (comV y.pre x.pre):Nat):Int)=(cInt .i64).enc d,(d==(if x.len<y.len then x.len else y.len))=false,IntKind.i64.wrap (j+1)=j']:=by delta oX;kernel_rfl
theorem out (n c:Nat) (ty:TypeId) (j:Int) (g:Nat→SV):oX Γ 300 L (fill g 0 (M1 n c j)) (mem l ty) [(9,[.b false])] (.exit 0) (M0 n c) (mem l ty) [decide (j<n)=false]:=by delta oX;kernel_rfl
theorem fin (n c:Nat) (ty:TypeId) (g:Nat→SV):oX Γ 300 D (fill g 0 (M0 n c )) (mem l ty) [] .ret (MZ true) (mem l ty) []:=by delta oX;kernel_rfl
theorem zr (ty:TypeId) (r:Bool) (g:Nat→SV):eRes tys (fill g 0 (MZ r)) (fun k=>(mem l ty )[k]?) fn.results.toList=some [.a (bool1 r)]:=by kernel_rfl
end
end rap
end Go.Proofs.YtdccehmekkcheaaDoor
namespace Go.Proofs.YtdccehmekkcheaaDoor
open Go Go.Eng Go.RowKit
set_option linter.unusedVariables false
set_option linter.unusedSimpArgs false
set_option maxRecDepth 100000
theorem apN_false {l:List Nd} {i:Nat} (h:apN l i=false):∀n,i≤n→apN l n=false
 | 0,hi=>by
        obtain rfl:i=0:=by omega
        exact h
 | 1,hi=>by
  rcases Nat.lt_or_ge i 1 with h1 | h1
  ·obtain rfl:i=0:=by omega
   simp[apN] at h
  ·obtain rfl:i=1:=by omega
   exact h
 | n+2,hi=>by
  rcases Nat.lt_or_ge i (n+2) with h1 | h1
  ·rw[apN,apN_false h (n+1) (by omega),Bool.false_and]
  ·obtain rfl:i=n+2:=by omega
   exact h
def aT (l:List Nd):Prop:=∀x∈l,NOk x
theorem aT.at {l:List Nd} (h:aT l) {i:Nat} (hi:i<l.length):NOk (l.getD i zn):=h _ (bI hi _)
def bg:Nat:=4611686018427387904
theorem endsM_mono {T:Ty} {fn:Func} {Q Q':SV→List Blk→Prop} (h:∀r m,Q r m→Q' r m) {e:Ex} {t:List SV} {m:List Blk}:aF T fn Q e t m→aF T fn Q' e t m:=fun⟨a,l,b,c⟩=>⟨a,l,b,h _ _ c⟩
def runOutM {G:Glob} {P:Program} (Γ:Cons P G) (T:Ty) (fn:Func) (n:Nat) (blks:List Blk) (args:List SV) (orc:Orc):Option (SV × Cst):=
 match runFn Γ T fn n blks args orc with
 | some (r,_,cs)=>some (r,cs)
 | none=>none
theorem runs_of_out {G:Glob} {P:Program} {Γ:Cons P G} {T:Ty} (hT:T.ok P) (hm:P.follows .mixedOrders=true) {fn:Func} {c:Code} (hb:fn.body=some c) {n F:Nat} {orc:Orc} {args:List SV} {blks:List Blk} {r:SV} {cs:Cst}
  (h:runOutM Γ T fn n blks args orc=some (r,cs)) (hc:Holds cs):aB P G F c (aG fn args) blks (aF T fn (aZ r .none)):=by
 unfold runOutM at h
 split at h<;>try cases h
 rename_i h
 unfold runFn at h
 rw[hb] at h
 simp only at h
 split at h<;>try cases h
 ·rename_i s cs2 he
  split at h<;>cases h
  rename_i l hl
  exact Runs.of_exec hT hm (tm':=s.tm) (mem':=s.mem) (orc':=s.orc) he hc (aF.fall hl rfl)
 ·rename_i s cs2 he
  split at h<;>cases h
  rename_i l hl
  exact Runs.of_exec hT hm (tm':=s.tm) (mem':=s.mem) (orc':=s.orc) he hc (aF.ret hl rfl)
theorem runs_of_out1 {G:Glob} {P:Program} {Γ:Cons P G} {T:Ty} (hT:T.ok P) (hm:P.follows .mixedOrders=true) {fn:Func} {c:Code} (hb:fn.body=some c) {n F:Nat} {orc:Orc} {args:List SV} {r:SV} {cs:Cst}
  (h:runOut Γ T fn n args orc=some (r,cs)) (hc:Holds cs):aB P G F c (aG fn args) [] (aF T fn (aZ r .none)):=runs_of_out hT hm hb (blks:=[]) h hc
namespace tap
theorem nil (a:Option Addr):runOut Γ tys fn 100 [.o (.a (.v (.slice a 0 0)))] []=some (ay.enc true,[]):=by kernel_rfl
theorem run (l:List Nd) (n c:Nat) (ty:TypeId) (hn:l.length=n) (hm:n<bg) (hok:aT l):aB Tryd.prog GT 1 body (aG fn [.o (.a (.sld 0 0 0 n c))]) [⟨false,ty,.prv (ah l)⟩] (aF tys fn (aZ (ay.enc (aL l)) .none)):=by
 unfold bg at hm
 have hl:(ah l).length=n*65:=by rw[←hn];exact bn l
 have hfalse:∀j,j<n→apN l (j+1)=false→aL l=false:=fun j hj h=>apN_false h _ (by omega)
 have ldx:∀j,j<n→0≤(j:Int)∧(j:Int)<n∧0+offI 0 (j:Int) 65+65≤(ah l).length∧SV.o (.g (aI (ah l) (0+offI 0 (j:Int) 65) 65))=cNd.enc (l.getD j zn):=fun j hj=>by
  have hb:j*65+65≤n*65:=by have:=Nat.mul_le_mul_right 65 (show j+1≤n by omega);omega
  refine⟨by omega,by omega,by rw[offs,hl];omega,by rw[offs];exact ld_nd l (by omega)⟩
 refine Runs.bq aj mixed 1 (s0 l n c ty) trivial (ids0 l n c ty) rfl fun g=> ?_
 rw[suf_eq]
 refine Runs.seq (Runs.seq (Runs.av aj mixed (a1 l n c ty g) trivial (ids1 l n c ty 0) rfl fun g=> ?_))
 refine Runs.block ?_
 refine Runs.loopX (fun(j:Nat)=>M1 n c (j:Int)) (fun _=>mem l ty) (fun j=>j≤n∧apN l j=true) (fun j=>n-j) ?_ 0 ⟨Nat.zero_le _,rfl⟩ g
 rintro j g ⟨hj,ha⟩
 by_cases hjn:j=n
 ·refine Runs.av aj mixed (out l n c ty _ g) ⟨decide_eq_false (by omega),trivial⟩ (ids0 l n c ty) rfl fun g=> ?_
  show aB _ _ _ _ _ _ _
  refine Runs.av aj mixed (fin l n c ty g) trivial (idsZ l ty _) rfl fun g=>aF.ret (zr l ty _ g) ?_
  have:aL l=true:=by unfold aL;rw[hn,←hjn];exact ha
  rw[this]
  rfl
 ·obtain⟨x1,x2,x3,x4⟩:=ldx j (by omega)
  have okx:=hok.at (show j<l.length by omega)
  cases hg:goodV (l.getD j zn) with
  | false=>
   have hf:aL l=false:=hfalse j (by omega) (by
    cases j with
    | zero=>rw[apN];exact hg
    | succ j=>rw[apN,hg,Bool.false_and,Bool.and_false])
   refine Runs.av aj mixed (bad l n c ty _ _ g) ⟨decide_eq_true (by omega),x1,x2,x3,x4,okx.1,by rw[hg],trivial⟩ (idsZ l ty _) rfl fun g=>aF.ret (zr l ty _ g) ?_
   rw[hf]
   rfl
  | true=>
   cases j with
   | zero=>
    refine Runs.av aj mixed (stp0 l n c ty _ g) ⟨decide_eq_true x2,x1,x2,x3,x4,okx.1,by rw[hg],trivial⟩ (ids1 l n c ty _) rfl fun g=> ?_
    exact⟨1,g,rfl,rfl,⟨by omega,by rw[apN];exact hg⟩,by omega⟩
   | succ i=>
    obtain⟨y1,y2,y3,y4⟩:=ldx i (by omega)
    have oky:=hok.at (show i<l.length by omega)
    have hi:IntKind.i64.wrap (((i+1:Nat):Int)-1)=(i:Int):=by rw[IntKind.wrap_i64];omega
    have ap2:apN l (i+2)=(goodV (l.getD (i+1) zn)&&nextV (l.getD i zn) (l.getD (i+1) zn)):=by rw[apN,ha,Bool.true_and]
    cases hlt:ltV (l.getD i zn).pre (l.getD (i+1) zn).pre with
    | false=>
     have hf:aL l=false:=hfalse (i+1) (by omega) (by rw[ap2];unfold nextV;rw[hlt,Bool.false_and,Bool.and_false])
     have hq:¬cmpV (l.getD i zn).pre (l.getD (i+1) zn).pre<0:=fun h=>by rw[(cmpV_neg oky.1 okx.1).1 h] at hlt;cases hlt
     refine Runs.av aj mixed (lo l n c ty _ _ (cmpV (l.getD i zn).pre (l.getD (i+1) zn).pre) _ _ g) ⟨decide_eq_true (by omega),x1,x2,x3,x4,okx.1,by rw[hg],decide_eq_true (by omega),hi,y1,y2,y3,y4,by omega,by omega,by omega,by omega,rfl,decide_eq_true (by omega),trivial⟩ (idsZ l ty _) rfl fun g=>aF.ret (zr l ty _ g) ?_
     rw[hf]
     rfl
    | true=>
     have hq:=(cmpV_neg oky.1 okx.1).2 hlt
     cases hc:decide (((comV (l.getD i zn).pre (l.getD (i+1) zn).pre:Nat):Int)≥if (l.getD (i+1) zn).len<(l.getD i zn).len then (l.getD (i+1) zn).len else (l.getD i zn).len) with
     | true=>
      have hf:aL l=false:=hfalse (i+1) (by omega) (by
       rw[ap2];unfold nextV
       rw[decide_eq_true_eq] at hc
       rw[decide_eq_false (by omega),Bool.and_false,Bool.and_false])
      refine Runs.av aj mixed (cl l n c ty _ _ (cmpV (l.getD i zn).pre (l.getD (i+1) zn).pre) _ _ _ g) ⟨decide_eq_true (by omega),x1,x2,x3,x4,okx.1,by rw[hg],decide_eq_true (by omega),hi,y1,y2,y3,y4,by omega,by omega,by omega,by omega,rfl,decide_eq_false (by omega),oky.1,okx.1,rfl,hc,trivial⟩ (idsZ l ty _) rfl fun g=>aF.ret (zr l ty _ g) ?_
      rw[hf]
      rfl
     | false=>
      refine Runs.av aj mixed (stp l n c ty _ _ (cmpV (l.getD i zn).pre (l.getD (i+1) zn).pre) _ ((i+2:Nat):Int) _ _ g) ⟨decide_eq_true (by omega),x1,x2,x3,x4,okx.1,by rw[hg],decide_eq_true (by omega),hi,y1,y2,y3,y4,by omega,by omega,by omega,by omega,rfl,decide_eq_false (by omega),oky.1,okx.1,rfl,hc,by rw[IntKind.wrap_i64];omega,trivial⟩ (ids1 l n c ty _) rfl fun g=> ?_
      refine⟨i+2,g,rfl,rfl,⟨by omega,?_⟩,by omega⟩
      rw[ap2,hg];unfold nextV
      rw[decide_eq_false_iff_not] at hc
      rw[hlt,decide_eq_true (by omega)]
      rfl
def spec:List PArg→Option (SV × LEff × Cst)
 | [.winv _ vs n ty]=>some (ay.enc (aL (au vs)),.none,[vs=ah (au vs),(au vs).length=n,n<bg,aT (au vs)])
 | [.val (.o (.a (.v (.slice a 0 0))))]=>some (ay.enc true,.none,[])
 | _=>none
noncomputable def con:Con Tryd.prog GT:=Con.parts aj 35 fn Tryd.func35 (by kernel_rfl) (c:=body) (by kernel_rfl) [.winv 65] spec
 (fun ps r e p h hp=>by
  unfold spec at h
  split at h<;>cases h
  ·exact⟨rfl,fun b hb=>by simp only[aM,PArg.blk,List.append_nil,List.nil_append,List.mem_singleton] at hb;rw[hb]⟩
  ·exact⟨rfl,fun b hb=>by simp[aM,PArg.blk] at hb⟩)
 (fun ps r e p cap h hp hi=>by
  unfold spec at h
  split at h<;>cases h
  ·rename_i s vs n ty
   obtain⟨p1,p2,p3,p4,_⟩:=hp
   have q:=run (au vs) n (cap 0) ty p2 p3 p4
   rw[←p1] at q
   exact q
  ·exact runs_of_out1 aj mixed (by kernel_rfl) (nil _) trivial)
end tap
namespace rap
theorem nil (a:Option Addr):runOut Γ tys fn 100 [.o (.a (.v (.slice a 0 0)))] []=some (ay.enc true,[]):=by kernel_rfl
theorem run (l:List Nd) (n c:Nat) (ty:TypeId) (hn:l.length=n) (hm:n<bg) (hok:aT l):aB Tryd.prog GT 1 body (aG fn [.o (.a (.sld 0 0 0 n c))]) [⟨false,ty,.prv (ah l)⟩] (aF tys fn (aZ (ay.enc (aL l)) .none)):=by
 unfold bg at hm
 have hl:(ah l).length=n*65:=by rw[←hn];exact bn l
 have hfalse:∀j,j<n→apN l (j+1)=false→aL l=false:=fun j hj h=>apN_false h _ (by omega)
 have ldx:∀j,j<n→0≤(j:Int)∧(j:Int)<n∧0+offI 0 (j:Int) 65+65≤(ah l).length∧SV.o (.g (aI (ah l) (0+offI 0 (j:Int) 65) 65))=cNd.enc (l.getD j zn):=fun j hj=>by
  have hb:j*65+65≤n*65:=by have:=Nat.mul_le_mul_right 65 (show j+1≤n by omega);omega
  refine⟨by omega,by omega,by rw[offs,hl];omega,by rw[offs];exact ld_nd l (by omega)⟩
 refine Runs.bq aj mixed 1 (s0 l n c ty) trivial (ids0 l n c ty) rfl fun g=> ?_
 rw[suf_eq]
 refine Runs.seq (Runs.seq (Runs.av aj mixed (a1 l n c ty g) trivial (ids1 l n c ty 0) rfl fun g=> ?_))
 refine Runs.block ?_
 refine Runs.loopX (fun(j:Nat)=>M1 n c (j:Int)) (fun _=>mem l ty) (fun j=>j≤n∧apN l j=true) (fun j=>n-j) ?_ 0 ⟨Nat.zero_le _,rfl⟩ g
 rintro j g ⟨hj,ha⟩
 by_cases hjn:j=n
 ·refine Runs.av aj mixed (out l n c ty _ g) ⟨decide_eq_false (by omega),trivial⟩ (ids0 l n c ty) rfl fun g=> ?_
  show aB _ _ _ _ _ _ _
  refine Runs.av aj mixed (fin l n c ty g) trivial (idsZ l ty _) rfl fun g=>aF.ret (zr l ty _ g) ?_
  have:aL l=true:=by unfold aL;rw[hn,←hjn];exact ha
  rw[this]
  rfl
 ·obtain⟨x1,x2,x3,x4⟩:=ldx j (by omega)
  have okx:=hok.at (show j<l.length by omega)
  cases hg:goodV (l.getD j zn) with
  | false=>
   have hf:aL l=false:=hfalse j (by omega) (by
    cases j with
    | zero=>rw[apN];exact hg
    | succ j=>rw[apN,hg,Bool.false_and,Bool.and_false])
   refine Runs.av aj mixed (bad l n c ty _ _ g) ⟨decide_eq_true (by omega),x1,x2,x3,x4,okx.1,by rw[hg],trivial⟩ (idsZ l ty _) rfl fun g=>aF.ret (zr l ty _ g) ?_
   rw[hf]
   rfl
  | true=>
   cases j with
   | zero=>
    refine Runs.av aj mixed (stp0 l n c ty _ g) ⟨decide_eq_true x2,x1,x2,x3,x4,okx.1,by rw[hg],trivial⟩ (ids1 l n c ty _) rfl fun g=> ?_
    exact⟨1,g,rfl,rfl,⟨by omega,by rw[apN];exact hg⟩,by omega⟩
   | succ i=>
    obtain⟨y1,y2,y3,y4⟩:=ldx i (by omega)
    have oky:=hok.at (show i<l.length by omega)
    have hi:IntKind.i64.wrap (((i+1:Nat):Int)-1)=(i:Int):=by rw[IntKind.wrap_i64];omega
    have ap2:apN l (i+2)=(goodV (l.getD (i+1) zn)&&nextV (l.getD i zn) (l.getD (i+1) zn)):=by rw[apN,ha,Bool.true_and]
    have hj0:((((i+1:Nat):Int))==0)=false:=by rw[←Bool.not_eq_true,beq_iff_eq];omega
    have gx:=(good_iff _).1 hg
    have gy:GoodP (l.getD i zn):=((apN_iff l (i+1) (by omega)).1 ha).1 i (by omega)
    cases hlt:ltV (l.getD i zn).pre (l.getD (i+1) zn).pre with
    | false=>
     have hf:aL l=false:=hfalse (i+1) (by omega) (by rw[ap2];unfold nextV;rw[hlt,Bool.false_and,Bool.and_false])
     refine Runs.av aj mixed (lo l n c ty _ _ _ _ g) ⟨decide_eq_true (by omega),x1,x2,x3,x4,okx.1,by rw[hg],hj0,hi,y1,y2,y3,y4,x1,x2,x3,x4,oky.1,okx.1,by rw[hlt],trivial⟩ (idsZ l ty _) rfl fun g=>aF.ret (zr l ty _ g) ?_
     rw[hf]
     rfl
    | true=>
     have m0:0≤(if (l.getD (i+1) zn).len<(l.getD i zn).len then (l.getD (i+1) zn).len else (l.getD i zn).len):=by have:=gx.lo;have:=gy.lo;split<;>omega
     have m1:(if (l.getD (i+1) zn).len<(l.getD i zn).len then (l.getD (i+1) zn).len else (l.getD i zn).len)≤256:=by have:=gx.hi;have:=gy.hi;split<;>omega
     generalize hM:(if (l.getD (i+1) zn).len<(l.getD i zn).len then (l.getD (i+1) zn).len else (l.getD i zn).len)=M at m0 m1
     cases hc:(((min M.toNat (comV (l.getD i zn).pre (l.getD (i+1) zn).pre):Nat):Int)==M) with
     | true=>
      have hf:aL l=false:=hfalse (i+1) (by omega) (by
       rw[ap2];unfold nextV
       rw[beq_iff_eq] at hc
       rw[hM,decide_eq_false (by omega),Bool.and_false,Bool.and_false])
      refine Runs.av aj mixed (cl l n c ty _ _ _ _ _ g) ⟨decide_eq_true (by omega),x1,x2,x3,x4,okx.1,by rw[hg],hj0,hi,y1,y2,y3,y4,x1,x2,x3,x4,oky.1,okx.1,by rw[hlt],oky.1,okx.1,by rw[hM];exact m0,by rw[hM];exact m1,by rw[hM],by rw[hM];exact hc,trivial⟩ (idsZ l ty _) rfl fun g=>aF.ret (zr l ty _ g) ?_
      rw[hf]
      rfl
     | false=>
      refine Runs.av aj mixed (stp l n c ty _ _ _ ((i+2:Nat):Int) _ _ g) ⟨decide_eq_true (by omega),x1,x2,x3,x4,okx.1,by rw[hg],hj0,hi,y1,y2,y3,y4,x1,x2,x3,x4,oky.1,okx.1,by rw[hlt],oky.1,okx.1,by rw[hM];exact m0,by rw[hM];exact m1,by rw[hM],by rw[hM];exact hc,by rw[IntKind.wrap_i64];omega,trivial⟩ (ids1 l n c ty _) rfl fun g=> ?_
      refine⟨i+2,g,rfl,rfl,⟨by omega,?_⟩,by omega⟩
      rw[ap2,hg];unfold nextV
      rw[←Bool.not_eq_true,beq_iff_eq] at hc
      rw[hlt,hM,decide_eq_true (by omega)]
      rfl
def spec:List PArg→Option (SV × LEff × Cst)
 | [.winv _ vs n ty]=>some (ay.enc (aL (au vs)),.none,[vs=ah (au vs),(au vs).length=n,n<bg,aT (au vs)])
 | [.val (.o (.a (.v (.slice a 0 0))))]=>some (ay.enc true,.none,[])
 | _=>none
noncomputable def con:Con Tryd.prog GT:=Con.parts aj 36 fn Tryd.func36 (by kernel_rfl) (c:=body) (by kernel_rfl) [.winv 65] spec
 (fun ps r e p h hp=>by
  unfold spec at h
  split at h<;>cases h
  ·exact⟨rfl,fun b hb=>by simp only[aM,PArg.blk,List.append_nil,List.nil_append,List.mem_singleton] at hb;rw[hb]⟩
  ·exact⟨rfl,fun b hb=>by simp[aM,PArg.blk] at hb⟩)
 (fun ps r e p cap h hp hi=>by
  unfold spec at h
  split at h<;>cases h
  ·rename_i s vs n ty
   obtain⟨p1,p2,p3,p4,_⟩:=hp
   have q:=run (au vs) n (cap 0) ty p2 p3 p4
   rw[←p1] at q
   exact q
  ·exact runs_of_out1 aj mixed (by kernel_rfl) (nil _) trivial)
end rap
end Go.Proofs.YtdccehmekkcheaaDoor
namespace Go.Proofs.YtdccehmekkcheaaDoor
open Go Go.Eng Go.RowKit
set_option linter.unusedVariables false
set_option linter.unusedSimpArgs false
set_option maxRecDepth 100000
structure MonoB (l:List Nd) (v k:Nat):Prop where
 le:k≤l.length
 no:∀i,i<k→bitV (l.getD i zn).pre v=false
 yes:∀i,k≤i→i<l.length→bitV (l.getD i zn).pre v=true
def cloSpec (i:Int) (x:CloA):Option (SV × Cst):=some (ay.enc (bitV ((au x.ys).getD i.toNat zn).pre x.v.toNat),[x.ys=ah (au x.ys),(au x.ys).length=x.n,0≤i,i<x.n,0≤x.v,x.v<256,aT (au x.ys)])
def seaSpec (N:Int) (x:CloA):Option (SV × Cst):=some ((cInt .i64).enc (splK (au x.ys) x.v.toNat:Nat),[x.ys=ah (au x.ys),(au x.ys).length=x.n,N=x.n,x.n<bg,0≤x.v,x.v<256,aT (au x.ys),MonoB (au x.ys) x.v.toNat (splK (au x.ys) x.v.toNat)])
namespace clo
noncomputable abbrev fn:=Tryd.f92
noncomputable def body:Code:=bF fn
noncomputable def Γ:Cons Tryd.prog GT:=[tbit.con]
def M (l:List Nd) (n c:Nat) (v:Int) (t0 t1 ty:TypeId) (r:Bool):List (Option SV):=aD 12 0 [(4,.o (.a (bool1 r)))]
section
variable (l:List Nd) (n c:Nat) (v:Int) (t0 t1 ty:TypeId)
def mem:List Blk:=cloB ⟨ah l,n,c,v⟩ t0 t1 ty
theorem ids (r:Bool):oI (M l n c v t0 t1 ty r) (mem l n c v t0 t1 ty):=by delta oI;kernel_rfl
theorem s (i:Int) (x:B32) (r:Bool):oX Γ 300 body (aG fn [.o (.a (int1 .i64 i)),.o (.a (.ptr 0 0)),.o (.a (.ptr 1 0))]) (mem l n c v t0 t1 ty) [(9,[.ds (cB32.enc x)]),(11,[.s (ay.enc r)])] .ret (M l n c v t0 t1 ty r) (mem l n c v t0 t1 ty) [0≤i,i<n,0+(offI 0 i 65+1)+32≤(ah l).length,SV.o (.g (aI (ah l) (0+(offI 0 i 65+1)) 32))=cB32.enc x,0≤v,v<256,BOk x,ay.enc (bitV x v.toNat)=ay.enc r]:=by delta oX;kernel_rfl
theorem zr (r:Bool) (g:Nat→SV):eRes tys (fill g 0 (M l n c v t0 t1 ty r)) (fun k=>(mem l n c v t0 t1 ty )[k]?) fn.results.toList=some [.a (bool1 r)]:=by kernel_rfl
end
theorem run (l:List Nd) (n c:Nat) (v i:Int) (t0 t1 ty:TypeId) (hn:l.length=n) (h0:0≤i) (h1:i<n) (v0:0≤v) (v1:v<256) (hok:aT l):
  aB Tryd.prog GT 3 body (aG fn [.o (.a (int1 .i64 i)),.o (.a (.ptr 0 0)),.o (.a (.ptr 1 0))]) (mem l n c v t0 t1 ty) (aF tys fn (aZ (ay.enc (bitV (l.getD i.toNat zn).pre v.toNat)) .none)):=by
 obtain⟨k,rfl⟩:=Int.eq_ofNat_of_zero_le h0
 have hk:k<l.length:=by omega
 have hl:(ah l).length=n*65:=by rw[←hn];exact bn l
 have hb:k*65+65≤n*65:=by have:=Nat.mul_le_mul_right 65 (show k+1≤n by omega);omega
 have ho:0+(offI 0 (k:Int) 65+1)=k*65+1:=by rw[offI_eq];simp
 have okx:=hok.at hk
 exact Runs.av aj mixed (s l n c v t0 t1 ty k (l.getD k zn).pre _) ⟨h0,h1,by rw[ho,hl];omega,by rw[ho];exact ld_pre l hk,v0,v1,okx.1,rfl,trivial⟩ (ids _ _ _ _ _ _ _ _) rfl fun g=>aF.ret (zr _ _ _ _ _ _ _ _ g) rfl
noncomputable def con:Con Tryd.prog GT:=Con.clo aj 92 fn Tryd.func92 (by kernel_rfl) (c:=body) (by kernel_rfl) 65 CloP.lit cloSpec (fun a x r p h=>by cases h;rfl)
 (fun a x t0 t1 ty r p h hp hl=>by
  cases h
  obtain⟨p1,p2,p3,p4,p5,p6,p7,_⟩:=hp
  obtain⟨ys,n,c,v⟩:=x
  simp only at p1 p2 p3 p4 p5 p6 p7
  have q:=run (au ys) n c v a t0 t1 ty p2 p3 p4 p5 p6 p7
  unfold mem at q
  rw[←p1] at q
  exact q)
end clo
namespace sea
noncomputable abbrev fn:=Tryd.f91
noncomputable def body:Code:=bF fn
noncomputable def D:Code:=cs2 (csuf 2 body)
noncomputable def Γ:Cons Tryd.prog GT:=[clo.con]
theorem suf_eq:csuf 2 body= .seq (.block 0 (.loop (cL (cB (cs1 (csuf 2 body)))))) D:=by kernel_rfl
noncomputable def LB:Code:=cL (cB (cs1 (csuf 2 body)))
def M (l:List Nd) (n c:Nat) (v:Int) (t0 t1 ty:TypeId) (i j:Int):List (Option SV):=aD 26 0 [(1,.o (.a (.fn 92 [(0,0),(1,0)]))),(5,.o (.a (int1 .i64 i))),(6,.o (.a (int1 .i64 j)))]
def MZ (r:Int):List (Option SV):=aD 26 0 [(4,.o (.a (int1 .i64 r)))]
section
variable (l:List Nd) (n c:Nat) (v:Int) (t0 t1 ty:TypeId)
def mem:List Blk:=cloB ⟨ah l,n,c,v⟩ t0 t1 ty
theorem ids (i j:Int):oI (M l n c v t0 t1 ty i j) (mem l n c v t0 t1 ty):=by delta oI;kernel_rfl
theorem idsZ (r:Int):oI (MZ r) (mem l n c v t0 t1 ty):=by delta oI;kernel_rfl
theorem s0 (N:Int):oX Γ 300 (cpre 2 body) (aG fn [.o (.a (int1 .i64 N)),.o (.a (.fn 92 [(0,0),(1,0)]))]) (mem l n c v t0 t1 ty) [] .normal (M l n c v t0 t1 ty 0 N) (mem l n c v t0 t1 ty) []:=by delta oX;kernel_rfl
theorem lo (i j s h h':Int) (g:Nat→SV):oX Γ 300 LB (fill g 0 (M l n c v t0 t1 ty i j)) (mem l n c v t0 t1 ty) [(11,[.b true]),(14,[.n s]),(15,[.n s]),(16,[.n h]),(17,[.n h]),(20,[.s (ay.enc false)]),(23,[.n h'])] .normal (M l n c v t0 t1 ty h' j) (mem l n c v t0 t1 ty) [decide (i<j)=true,IntKind.i64.wrap (i+j)=s,IntKind.u64.wrap s=s,s.fdiv (2^1)=h,IntKind.i64.wrap h=h,0+0+n*65≤(ah l).length,((ah l).drop (0+0)).take (n*65)=ah (au (((ah l).drop (0+0)).take (n*65))),(au (((ah l).drop (0+0)).take (n*65))).length=n,0≤h,h<n,0≤v,v<256,aT (au (((ah l).drop (0+0)).take (n*65))),ay.enc (bitV ((au (((ah l).drop (0+0)).take (n*65))).getD h.toNat zn).pre v.toNat)=ay.enc false,IntKind.i64.wrap (h+1)=h']:=by delta oX;kernel_rfl
theorem hi (i j s h:Int) (g:Nat→SV):oX Γ 300 LB (fill g 0 (M l n c v t0 t1 ty i j)) (mem l n c v t0 t1 ty) [(11,[.b true]),(14,[.n s]),(15,[.n s]),(16,[.n h]),(17,[.n h]),(20,[.s (ay.enc true)])] .normal (M l n c v t0 t1 ty i h) (mem l n c v t0 t1 ty) [decide (i<j)=true,IntKind.i64.wrap (i+j)=s,IntKind.u64.wrap s=s,s.fdiv (2^1)=h,IntKind.i64.wrap h=h,0+0+n*65≤(ah l).length,((ah l).drop (0+0)).take (n*65)=ah (au (((ah l).drop (0+0)).take (n*65))),(au (((ah l).drop (0+0)).take (n*65))).length=n,0≤h,h<n,0≤v,v<256,aT (au (((ah l).drop (0+0)).take (n*65))),ay.enc (bitV ((au (((ah l).drop (0+0)).take (n*65))).getD h.toNat zn).pre v.toNat)=ay.enc true]:=by delta oX;kernel_rfl
theorem out (i j:Int) (g:Nat→SV):oX Γ 300 LB (fill g 0 (M l n c v t0 t1 ty i j)) (mem l n c v t0 t1 ty) [(11,[.b false])] (.exit 0) (M l n c v t0 t1 ty i j) (mem l n c v t0 t1 ty) [decide (i<j)=false]:=by delta oX;kernel_rfl
theorem fin (i j:Int) (g:Nat→SV):oX Γ 300 D (fill g 0 (M l n c v t0 t1 ty i j)) (mem l n c v t0 t1 ty) [] .ret (MZ i) (mem l n c v t0 t1 ty) []:=by delta oX;kernel_rfl
theorem zr (r:Int) (g:Nat→SV):eRes tys (fill g 0 (MZ r)) (fun k=>(mem l n c v t0 t1 ty )[k]?) fn.results.toList=some [.a (int1 .i64 r)]:=by kernel_rfl
end
end sea
end Go.Proofs.YtdccehmekkcheaaDoor
namespace Go.Proofs.YtdccehmekkcheaaDoor
open Go Go.Eng Go.RowKit
set_option linter.unusedVariables false
set_option linter.unusedSimpArgs false
set_option maxRecDepth 100000
theorem dtn {l:List Nd} {n:Nat} (h:l.length=n):((ah l).drop (0+0)).take (n*65)=ah l:=by
 rw[Nat.add_zero,List.drop_zero,List.take_of_length_le (by rw[bn,h];omega)]
namespace sea
theorem run (l:List Nd) (n c k:Nat) (v:Int) (t0 t1 ty:TypeId) (hn:l.length=n) (hm:n<bg) (v0:0≤v) (v1:v<256) (hok:aT l) (hk:MonoB l v.toNat k):
  aB Tryd.prog GT 3 body (aG fn [.o (.a (int1 .i64 (n:Int))),.o (.a (.fn 92 [(0,0),(1,0)]))]) (mem l n c v t0 t1 ty) (aF tys fn (aZ ((cInt .i64).enc (k:Nat)) .none)):=by
 unfold bg at hm
 have hl:(ah l).length=n*65:=by rw[←hn];exact bn l
 have hY:=dtn hn
 have hk1:=hk.le
 refine Runs.bq aj mixed 2 (s0 l n c v t0 t1 ty n) trivial (ids _ _ _ _ _ _ _ _ _) rfl fun g=> ?_
 rw[suf_eq]
 refine Runs.seq (Runs.block ?_)
 refine Runs.loopX (fun(x:Nat × Nat)=>M l n c v t0 t1 ty (x.1:Int) (x.2:Int)) (fun _=>mem l n c v t0 t1 ty) (fun x=>x.1≤k∧k≤x.2∧x.2≤n) (fun x=>x.2-x.1) ?_ (0,n) ⟨Nat.zero_le _,by omega,Nat.le_refl _⟩ g
 rintro⟨i,j⟩ g ⟨h1,h2,h3⟩
 simp only at h1 h2 h3
 rcases Nat.lt_or_ge i j with hij | hij
 ·have f1:IntKind.i64.wrap ((i:Int)+(j:Int))=((i+j:Nat):Int):=by rw[IntKind.wrap_i64];omega
  have f2:IntKind.u64.wrap ((i+j:Nat):Int)=((i+j:Nat):Int):=by rw[IntKind.wrap_u64];omega
  have f3:((i+j:Nat):Int).fdiv (2^1)=(((i+j)/2:Nat):Int):=by rw[Int.fdiv_eq_ediv_of_nonneg _ (by decide)];omega
  have f4:IntKind.i64.wrap (((i+j)/2:Nat):Int)=(((i+j)/2:Nat):Int):=by rw[IntKind.wrap_i64];omega
  have hh:(i+j)/2<n:=by omega
  have rest:∀b,bitV (l.getD ((i+j)/2) zn).pre v.toNat=b→ay.enc (bitV ((au (((ah l).drop (0+0)).take (n*65))).getD (((i+j)/2:Nat):Int).toNat zn).pre v.toNat)=ay.enc b:=fun b hb=>by
   rw[hY,aU,Int.toNat_natCast,hb]
  have pr:(((ah l).drop (0+0)).take (n*65))=ah (au (((ah l).drop (0+0)).take (n*65)))∧(au (((ah l).drop (0+0)).take (n*65))).length=n∧aT (au (((ah l).drop (0+0)).take (n*65))):=by
   rw[hY,aU];exact⟨rfl,hn,hok⟩
  cases hb:bitV (l.getD ((i+j)/2) zn).pre v.toNat with
  | false=>
   have hlt:(i+j)/2<k:=by
    rcases Nat.lt_or_ge ((i+j)/2) k with q | q
    ·exact q
    ·rw[hk.yes _ q (by omega)] at hb;cases hb
   refine Runs.av aj mixed (lo l n c v t0 t1 ty _ _ _ _ (((i+j)/2+1:Nat):Int) g) ⟨decide_eq_true (by omega),f1,f2,f3,f4,by omega,pr.1,pr.2.1,by omega,by omega,v0,v1,pr.2.2,rest _ hb,by rw[IntKind.wrap_i64];omega,trivial⟩ (ids _ _ _ _ _ _ _ _ _) rfl fun g=> ?_
   exact⟨((i+j)/2+1,j),g,rfl,rfl,⟨by simp only;omega,by simp only;omega,by simp only;omega⟩,by simp only;omega⟩
  | true=>
   have hge:k≤(i+j)/2:=by
    rcases Nat.lt_or_ge ((i+j)/2) k with q | q
    ·rw[hk.no _ q] at hb;cases hb
    ·exact q
   refine Runs.av aj mixed (hi l n c v t0 t1 ty _ _ _ _ g) ⟨decide_eq_true (by omega),f1,f2,f3,f4,by omega,pr.1,pr.2.1,by omega,by omega,v0,v1,pr.2.2,rest _ hb,trivial⟩ (ids _ _ _ _ _ _ _ _ _) rfl fun g=> ?_
   exact⟨(i,(i+j)/2),g,rfl,rfl,⟨by simp only;omega,by simp only;omega,by simp only;omega⟩,by simp only;omega⟩
 ·refine Runs.av aj mixed (out l n c v t0 t1 ty _ _ g) ⟨decide_eq_false (by omega),trivial⟩ (ids _ _ _ _ _ _ _ _ _) rfl fun g=> ?_
  show aB _ _ _ _ _ _ _
  refine Runs.av aj mixed (fin l n c v t0 t1 ty _ _ g) trivial (idsZ _ _ _ _ _ _ _ _) rfl fun g=>aF.ret (zr _ _ _ _ _ _ _ _ g) ?_
  rw[show i=k by omega]
  rfl
noncomputable def con:Con Tryd.prog GT:=Con.clo aj 91 fn Tryd.func91 (by kernel_rfl) (c:=body) (by kernel_rfl) 65 (CloP.fn 92) seaSpec (fun a x r p h=>by cases h;rfl)
 (fun a x t0 t1 ty r p h hp hl=>by
  cases h
  obtain⟨p1,p2,p3,p4,p5,p6,p7,p8,_⟩:=hp
  obtain⟨ys,n,c,v⟩:=x
  simp only at p1 p2 p3 p4 p5 p6 p7 p8
  subst p3
  have q:=run (au ys) n c _ v t0 t1 ty p2 p4 p5 p6 p7 p8
  unfold mem at q
  rw[←p1] at q
  exact q)
end sea
namespace spl
noncomputable abbrev fn:=Tryd.f79
noncomputable def body:Code:=bF fn
noncomputable def Γ:Cons Tryd.prog GT:=[tcom.con,sea.con]
def M (l:List Nd) (n c:Nat) (ty:TypeId) (k o:Nat):List (Option SV):=aD 29 0 [(2,.o (.a (.sld 0 0 0 k c))),(3,.o (.a (.sld 0 0 o (n-k) (c-k)))),(4,.o (.a (.ptr 2 0)))]
section
variable (l:List Nd) (n c:Nat) (ty:TypeId)
def mem (v:Int):List Blk:=[⟨false,ty,.prv (ah l)⟩,⟨true,36,.lit [.sld 0 0 0 n c]⟩,⟨true,3,.lit [int1 .i64 v]⟩]
theorem ids (k o:Nat) (v:Int):oI (M l n c ty k o) (mem l n c ty v):=by delta oI;kernel_rfl
theorem s (k o:Nat) (m v:Int) (a b:B32):oX Γ 300 body (aG fn [.o (.a (.sld 0 0 0 n c))]) [⟨false,ty,.prv (ah l)⟩] [(9,[.ds (cB32.enc a)]),(13,[.n m]),(16,[.ds (cB32.enc b)]),(17,[.s (.o (.a (int1 .i64 v)))]),(21,[.s (.o (.a (int1 .i64 (k:Int))))]),(27,[.s (.o (.a (.sld 0 0 o (n-k) (c-k))))])] .ret (M l n c ty k o) (mem l n c ty v) [0≤(0:Int),(0:Int)<n,0+(offI 0 (0:Int) 65+1)+32≤(ah l).length,SV.o (.g (aI (ah l) (0+(offI 0 (0:Int) 65+1)) 32))=cB32.enc a,IntKind.i64.wrap ((n:Int)-1)=m,0≤m,m<n,0+(offI 0 m 65+1)+32≤(ah l).length,SV.o (.g (aI (ah l) (0+(offI 0 m 65+1)) 32))=cB32.enc b,BOk a,BOk b,(cInt .i64).enc (comV a b:Nat)=(cInt .i64).enc v,0+0+n*65≤(ah l).length,((ah l).drop (0+0)).take (n*65)=ah (au (((ah l).drop (0+0)).take (n*65))),(au (((ah l).drop (0+0)).take (n*65))).length=n,(n:Int)=n,n<bg,0≤v,v<256,aT (au (((ah l).drop (0+0)).take (n*65))),MonoB (au (((ah l).drop (0+0)).take (n*65))) v.toNat (splK (au (((ah l).drop (0+0)).take (n*65))) v.toNat),(cInt .i64).enc (splK (au (((ah l).drop (0+0)).take (n*65))) v.toNat:Nat)=(cInt .i64).enc (k:Int),0≤(0:Int),(0:Int)≤k,(k:Int)≤c,0≤(k:Int),(k:Int)≤n,(n:Int)≤c,SV.o (.a (.sld 0 0 (advS c k 0 65) (n-k) (c-k)))=SV.o (.a (.sld 0 0 o (n-k) (c-k)))]:=by delta oX;kernel_rfl
theorem zr (k o:Nat) (v:Int) (g:Nat→SV):eRes tys (fill g 0 (M l n c ty k o)) (fun k=>(mem l n c ty v)[k]?) fn.results.toList=some [.a (.sld 0 0 0 k c),.a (.sld 0 0 o (n-k) (c-k)),.a (int1 .i64 v)]:=by kernel_rfl
end
end spl
end Go.Proofs.YtdccehmekkcheaaDoor
