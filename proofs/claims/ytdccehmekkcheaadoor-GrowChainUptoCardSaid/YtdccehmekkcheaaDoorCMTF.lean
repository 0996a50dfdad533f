/- beaconlaw12.in: contract; apart: facts of the walk. -/
import Derived.Test.YtdccehmekkcheaaDoorCFo
import Derived.Test.YtdccehmekkcheaaDoorCDsF
import Derived.Test.YtdccehmekkcheaaDoorCEngU
set_option linter.unusedSimpArgs false
set_option linter.unusedVariables false
namespace Go.Proofs.YtdccehmekkcheaaDoor
open Go Go.Eng Go.RowKit
set_option maxRecDepth 100000
namespace ain
noncomputable abbrev fn:=Tryd.f71
noncomputable def body:Code:=d9 fn
noncomputable def A1:Code:=cs1 (cs1 (bM 1 body))
noncomputable def L:Code:=cL (cB (cs2 (cs1 (bM 1 body))))
noncomputable def D:Code:=cs2 (bM 1 body)
noncomputable def Γ:Cons Tryd.prog GT:=[]
theorem dJ:bM 1 body= .seq (.seq A1 (.block 0 (.loop L))) D:=by kernel_rfl
def MR (b:Bool):List (Option SV):=aD 19 0 [(4,.o (.a (.v (.bool b))))]
theorem zr (b:Bool) (g:Nat→SV) (mm:Nat→Option Blk):eRes tys (fill g 0 (MR b)) mm fn.results.toList=some [.a (fH b)]:=by kernel_rfl
def m (l:List Lf) (n c:Nat) (ty:TypeId) (x:B32):List Blk:=[⟨false,ty,.prv (lvals l)⟩,⟨true,24,.lit (ay.row x)⟩]
def M0 (n c:Nat):List (Option SV):=aD 19 0 [(0,.o (.a (.sld 0 0 0 n c))),(3,.o (.a (.ptr 1 0)))]
def M1 (n c:Nat) (j:Int):List (Option SV):=aD 19 0 [(0,.o (.a (.sld 0 0 0 n c))),(3,.o (.a (.ptr 1 0))),(7,.o (.a (aG .i64 n))),(8,.o (.a (aG .i64 j)))]
section
variable (l:List Lf) (n c:Nat) (ty:TypeId) (x:B32)
theorem i0:oI (M0 n c) (m l n c ty x):=by delta oI;kernel_rfl
theorem i1 (j:Int):oI (M1 n c j) (m l n c ty x):=by delta oI;kernel_rfl
theorem s0:oX Γ 300 (eD 1 body) (aK fn [.o (.a (.sld 0 0 0 n c)),ay.enc x]) ([⟨false,ty,.prv (lvals l)⟩]:List Blk) [] .normal (M0 n c) (m l n c ty x) []:=by delta oX;kernel_rfl
theorem a1 (g:Nat→SV):oX Γ 300 A1 (fill g 0 (M0 n c )) (m l n c ty x) [] .normal (M1 n c 0) (m l n c ty x) []:=by delta oX;kernel_rfl
theorem no (j j':Int) (y:B32) (g:Nat→SV):oX Γ 300 L (fill g 0 (M1 n c j)) (m l n c ty x) [(9,[.b true]),(15,[.ds (ay.enc y)]),(17,[.b false]),(18,[.n j'])] .normal (M1 n c j') (m l n c ty x) [decide (j<n)=true,0≤j,j<n,0+aN 0 j 64+32≤(lvals l).length,SV.o (.g (bn (lvals l) (0+aN 0 j 64) 32))=ay.enc y,eqL y.to x.to=false,IntKind.i64.wrap (j+1)=j']:=by delta oX;kernel_rfl
theorem yes (j:Int) (y:B32) (g:Nat→SV):oN [0] Γ 100 L (fill g 0 (M1 n c j)) (m l n c ty x) [(9,[.b true]),(15,[.ds (ay.enc y)]),(17,[.b true])] .ret (MR true) ([⟨false,ty,.prv (lvals l)⟩]:List Blk) [decide (j<n)=true,0≤j,j<n,0+aN 0 j 64+32≤(lvals l).length,SV.o (.g (bn (lvals l) (0+aN 0 j 64) 32))=ay.enc y,eqL y.to x.to=true]:=by delta oN;kernel_rfl
theorem out (j:Int) (g:Nat→SV):oX Γ 300 L (fill g 0 (M1 n c j)) (m l n c ty x) [(9,[.b false])] (.exit 0) (M0 n c) (m l n c ty x) [decide (j<n)=false]:=by delta oX;kernel_rfl
theorem fin (g:Nat→SV):oN [0] Γ 100 D (fill g 0 (M0 n c )) (m l n c ty x) [] .ret (MR false) ([⟨false,ty,.prv (lvals l)⟩]:List Blk) []:=by delta oN;kernel_rfl
end
def Z0 (a:Option Addr):List (Option SV):=aD 19 0 [(0,.o (.a (.v (.slice a 0 0)))),(3,.o (.a (.ptr 0 0)))]
def Z1 (a:Option Addr):List (Option SV):=aD 19 0 [(0,.o (.a (.v (.slice a 0 0)))),(3,.o (.a (.ptr 0 0))),(7,.o (.a (aG .i64 0))),(8,.o (.a (aG .i64 0)))]
def zm (x:B32):List Blk:=[⟨true,24,.lit (ay.row x)⟩]
section
variable (a:Option Addr) (x:B32)
theorem j0:oI (Z0 a) (zm x):=by delta oI;kernel_rfl
theorem j1:oI (Z1 a) (zm x):=by delta oI;kernel_rfl
theorem zs:oX Γ 300 (eD 1 body) (aK fn [.o (.a (.v (.slice a 0 0))),ay.enc x]) ([]:List Blk) [] .normal (Z0 a) (zm x) []:=by delta oX;kernel_rfl
theorem za (g:Nat→SV):oX Γ 300 A1 (fill g 0 (Z0 a)) (zm x) [] .normal (Z1 a) (zm x) []:=by delta oX;kernel_rfl
theorem zo (g:Nat→SV):oX Γ 300 L (fill g 0 (Z1 a)) (zm x) [] (.exit 0) (Z0 a) (zm x) []:=by delta oX;kernel_rfl
theorem zf (g:Nat→SV):oN [] Γ 100 D (fill g 0 (Z0 a)) (zm x) [] .ret (MR false) ([]:List Blk) []:=by delta oN;kernel_rfl
end
theorem run (l:List Lf) (n c:Nat) (ty:TypeId) (x:B32) (hn:l.length=n) (hb:n≤4000000):aF Tryd.prog GT 1 body (aK fn [.o (.a (.sld 0 0 0 n c)),ay.enc x]) [⟨false,ty,.prv (lvals l)⟩] (aH tys fn (bJ (aI.enc (!dF l x n)) .none)):=by
 refine Runs.dz aj mixed 1 (s0 l n c ty x) trivial (i0 l n c ty x) rfl fun g=> ?_
 rw[dJ]
 refine Runs.seq (Runs.seq (Runs.au aj mixed (a1 l n c ty x g) trivial (i1 l n c ty x _) rfl fun g=> ?_))
 refine Runs.block ?_
 refine Runs.dA (fun(i:Nat)=>M1 n c (i:Int)) (fun _=>m l n c ty x) (fun i=>i≤n∧dF l x i=true) (fun i=>n-i) ?_ 0 ⟨Nat.zero_le _,rfl⟩ g
 rintro i g ⟨hi,ha⟩
 rcases Nat.lt_or_ge i n with h | h
 ·obtain⟨c1,c2⟩:=dst.tu l (show i<l.length by omega)
  have hs:dF l x (i+1)=(dF l x i&& !eqL (l.getD i zl).lab.to x.to):=rfl
  rw[ha,Bool.true_and] at hs
  cases hq:eqL (l.getD i zl).lab.to x.to with
  | false=>
   rw[hq] at hs
   refine Runs.au aj mixed (no l n c ty x i ((i+1:Nat):Int) _ g) ⟨decide_eq_true (by omega),by omega,by omega,c1,c2,hq,by rw[IntKind.wrap_i64];omega,trivial⟩ (i1 l n c ty x _) rfl fun g=> ?_
   exact⟨i+1,g,rfl,rfl,⟨by omega,hs⟩,by omega⟩
  | true=>
   have hf:dF l x n=false:=by
    rw[←Bool.not_eq_true,pK]
    exact fun hh=>hh i h (to_inj ((pW _ _).1 hq))
   rw[hf]
   refine Runs.aP aj mixed [0] (yes l n c ty x i _ g) ⟨decide_eq_true (by omega),by omega,by omega,c1,c2,hq,trivial⟩ (by kernel_rfl) rfl fun g=> ?_
   show aH _ _ _ _ _ _
   exact aH.ret (zr true g _) rfl
 ·obtain rfl:i=n:=by omega
  rw[ha]
  refine Runs.au aj mixed (out l i c ty x _ g) ⟨decide_eq_false (by omega),trivial⟩ (i0 l i c ty x) rfl fun g=> ?_
  show aF _ _ _ _ _ _ _
  exact Runs.aP aj mixed [0] (fin l i c ty x g) trivial (by kernel_rfl) rfl fun g=>aH.ret (zr false g _) rfl
theorem run0 (a:Option Addr) (x:B32):aF Tryd.prog GT 0 body (aK fn [.o (.a (.v (.slice a 0 0))),ay.enc x]) [] (aH tys fn (bJ (aI.enc false) .none)):=by
 refine Runs.dz aj mixed 1 (zs a x) trivial (j0 a x) rfl fun g=> ?_
 rw[dJ]
 refine Runs.seq (Runs.seq (Runs.au aj mixed (za a x g) trivial (j1 a x) rfl fun g=> ?_))
 refine Runs.block ?_
 refine Runs.dA (fun(_:Unit)=>Z1 a) (fun _=>zm x) (fun _=>True) (fun _=>0) ?_ () trivial g
 rintro _ g _
 refine Runs.au aj mixed (zo a x g) trivial (j0 a x) rfl fun g=> ?_
 show aF _ _ _ _ _ _ _
 exact Runs.aP aj mixed [] (zf a x g) trivial (by kernel_rfl) rfl fun g=>aH.ret (zr false g _) rfl
def spec:List aU→Option (SV × dH × Cst)
 | [.winv _ vs n ty,.val v]=>match ay.dec v with
  | some x=>some (aI.enc (!dF (av vs) x n),.none,[vs=lvals (av vs),(av vs).length=n,n≤4000000])
  | none=>none
 | [.val (.o (.a (.v (.slice a 0 0)))),.val v]=>match ay.dec v with
  | some x=>some (aI.enc false,.none,[])
  | none=>none
 | _=>none
noncomputable def con:Con Tryd.prog GT:=Con.parts aj 71 fn Tryd.func71 (by kernel_rfl) (c:=body) (by kernel_rfl) [.winv 64,.val] spec
 (fun ps r e p h hp=>by
  unfold spec at h
  split at h
  ·split at h<;>cases h
   exact⟨rfl,fun b hb=>by simp only[bf,aU.blk,List.append_nil,List.nil_append,List.mem_singleton] at hb;rw[hb]⟩
  ·split at h<;>cases h
   exact⟨rfl,fun b hb=>by simp[bf,aU.blk] at hb⟩
  ·cases h)
 (fun ps r e p cap h hp hi=>by
  unfold spec at h
  split at h
  ·rename_i s1 vs n ty z
   split at h<;>cases h
   rename_i x k2
   have e2:=ay.ok _ _ k2
   subst e2
   obtain⟨p1,p2,p3,_⟩:=hp
   have q:=run (av vs) n (cap 0) ty x p2 p3
   rw[←p1] at q
   exact q
  ·rename_i a z
   split at h<;>cases h
   rename_i x k2
   have e2:=ay.ok _ _ k2
   subst e2
   exact run0 a x
  ·cases h)
end ain
def apB (X b:List Lf):Nat→List Lf
 | 0=>[]
 | i+1=>bif dF X (b.getD i zl).lab X.length&&dF (apB X b i) (b.getD i zl).lab (apB X b i).length then apB X b i++[b.getD i zl] else apB X b i
theorem tK (X b:List Lf):∀i,(apB X b i).length≤i
 | 0=>Nat.le_refl _
 | i+1=>by
  have:=tK X b i
  rw[apB]
  cases (dF X (b.getD i zl).lab X.length&&dF (apB X b i) (b.getD i zl).lab (apB X b i).length) with
  | true=>rw[cond_true,List.length_append];simp;omega
  | false=>rw[cond_false];omega
theorem apB_mem (X b:List Lf):∀i,i≤b.length→∀z∈apB X b i,z∈b
 | 0,_,z,hz=>by cases hz
 | i+1,hi,z,hz=>by
  rw[apB] at hz
  cases hq:(dF X (b.getD i zl).lab X.length&&dF (apB X b i) (b.getD i zl).lab (apB X b i).length) with
  | true=>
   rw[hq,cond_true] at hz
   rcases List.mem_append.1 hz with h | h
   ·exact apB_mem X b i (by omega) z h
   ·rw[List.mem_singleton.1 h];exact dV (by omega) _
  | false=>rw[hq,cond_false] at hz;exact apB_mem X b i (by omega) z hz
theorem apB_ne {X:List Lf} (hX:(X.map bP).Pairwise NeP) (b:List Lf):∀i,((X++apB X b i).map bP).Pairwise NeP
 | 0=>by rw[apB,List.append_nil];exact hX
 | i+1=>by
  have ih:=apB_ne hX b i
  rw[apB]
  cases hq:(dF X (b.getD i zl).lab X.length&&dF (apB X b i) (b.getD i zl).lab (apB X b i).length) with
  | true=>
   rw[Bool.and_eq_true] at hq
   rw[cond_true,←List.append_assoc,List.map_append,List.pairwise_append]
   refine⟨ih,List.pairwise_singleton _ _,fun y hy z hz=> ?_⟩
   obtain⟨u,hu,rfl⟩:=List.mem_map.1 hy
   obtain rfl:=List.mem_singleton.1 hz
   rcases List.mem_append.1 hu with hu | hu
   ·obtain⟨j,hj,rfl⟩:=List.mem_iff_getElem.1 hu
    have:=(pK _ _ _).1 hq.1 j hj
    rw[getD_lt hj] at this
    exact this
   ·obtain⟨j,hj,rfl⟩:=List.mem_iff_getElem.1 hu
    have:=(pK _ _ _).1 hq.2 j hj
    rw[getD_lt hj] at this
    exact this
  | false=>rw[cond_false];exact ih
namespace apt
noncomputable abbrev fn:=Tryd.f50
noncomputable def body:Code:=d9 fn
noncomputable def P2:Code:=cs1 (bM 2 body)
noncomputable def A2:Code:=cs1 P2
noncomputable def L2:Code:=cL (cB (cs2 P2))
noncomputable def P8:Code:=cs1 (bM 3 body)
noncomputable def A8:Code:=cs1 P8
noncomputable def L8:Code:=cL (cB (cs2 P8))
noncomputable def D:Code:=bM 4 body
noncomputable def Γ:Cons Tryd.prog GT:=[ain.con]
theorem suf_2:bM 2 body= .seq (.seq A2 (.block 0 (.loop L2))) (.seq (.seq A8 (.block 2 (.loop L8))) D):=by kernel_rfl
namespace ww
section
variable (A:List Lf) (ty:TypeId) (B:List Lf) (ty2:TypeId)
def m0:List Blk:=[⟨false,ty,.prv (lvals A)⟩,⟨false,ty2,.prv (lvals B)⟩]
def mx (us:List Value) (lo:Nat) (hi:Option Nat):List Blk:=[⟨false,ty,.prv (lvals A)⟩,⟨false,ty2,.prv (lvals B)⟩,⟨true,30,.grv 64 us lo hi⟩]
def my (vs:List Value) (lp:Nat) (hj:Option Nat):List Blk:=[⟨false,ty,.prv (lvals A)⟩,⟨false,ty2,.prv (lvals B)⟩,⟨true,30,.grv 64 vs lp hj⟩]
def mxy (us:List Value) (lo:Nat) (hi:Option Nat) (vs:List Value) (lp:Nat) (hj:Option Nat):List Blk:=[⟨false,ty,.prv (lvals A)⟩,⟨false,ty2,.prv (lvals B)⟩,⟨true,30,.grv 64 us lo hi⟩,⟨true,30,.grv 64 vs lp hj⟩]
end
def M0 (n c:Nat) (m d:Nat):List (Option SV):=aD 64 0 [(0,.o (.a (.sld 0 0 0 n c))),(1,.o (.a (.sld 1 0 0 m d))),(6,.o (.a (.v (.slice none 0 0)))),(7,.o (.a (.v (.slice none 0 0))))]
theorem i0 (A:List Lf) (n c:Nat) (ty:TypeId) (B:List Lf) (m d:Nat) (ty2:TypeId):oI (M0 n c m d) (m0 A ty B ty2):=by delta oI;kernel_rfl
theorem s0 (A:List Lf) (n c:Nat) (ty:TypeId) (B:List Lf) (m d:Nat) (ty2:TypeId):oX Γ 300 (eD 2 body) (aK fn [.o (.a (.sld 0 0 0 n c)),.o (.a (.sld 1 0 0 m d))]) (m0 A ty B ty2) [] .normal (M0 n c m d) (m0 A ty B ty2) []:=by delta oX;kernel_rfl
def MA (n c:Nat) (m d:Nat) (j:Int):List (Option SV):=aD 64 0 [(0,.o (.a (.sld 0 0 0 n c))),(1,.o (.a (.sld 1 0 0 m d))),(6,.o (.a (.v (.slice none 0 0)))),(7,.o (.a (.v (.slice none 0 0)))),(11,.o (.a (aG .i64 n))),(12,.o (.a (aG .i64 j)))]
theorem iA (A:List Lf) (n c:Nat) (ty:TypeId) (B:List Lf) (m d:Nat) (ty2:TypeId) (j:Int):oI (MA n c m d j) (m0 A ty B ty2):=by delta oI;kernel_rfl
def MB (n c:Nat) (m d:Nat):List (Option SV):=aD 64 0 [(0,.o (.a (.sld 0 0 0 n c))),(1,.o (.a (.sld 1 0 0 m d))),(6,.o (.a (.v (.slice none 0 0)))),(7,.o (.a (.v (.slice none 0 0))))]
theorem iB (A:List Lf) (n c:Nat) (ty:TypeId) (B:List Lf) (m d:Nat) (ty2:TypeId):oI (MB n c m d) (m0 A ty B ty2):=by delta oI;kernel_rfl
theorem oA (A:List Lf) (n c:Nat) (ty:TypeId) (B:List Lf) (m d:Nat) (ty2:TypeId) (j:Int) (g:Nat→SV):oX Γ 300 L2 (fill g 0 (MA n c m d j)) (m0 A ty B ty2) [(13,[.b false])] (.exit 0) (MB n c m d) (m0 A ty B ty2) [decide (j<n)=false]:=by delta oX;kernel_rfl
def MAx (n c:Nat) (m d:Nat) (r:Nat) (j:Int):List (Option SV):=aD 64 0 [(0,.o (.a (.sld 0 0 0 n c))),(1,.o (.a (.sld 1 0 0 m d))),(6,.o (.a (.slg 2 r))),(7,.o (.a (.v (.slice none 0 0)))),(11,.o (.a (aG .i64 n))),(12,.o (.a (aG .i64 j)))]
theorem iAx (A:List Lf) (n c:Nat) (ty:TypeId) (B:List Lf) (m d:Nat) (ty2:TypeId) (us:List Value) (lo:Nat) (hi:Option Nat) (r:Nat) (j:Int):oI (MAx n c m d r j) (mx A ty B ty2 us lo hi):=by delta oI;kernel_rfl
def MBx (n c:Nat) (m d:Nat) (r:Nat):List (Option SV):=aD 64 0 [(0,.o (.a (.sld 0 0 0 n c))),(1,.o (.a (.sld 1 0 0 m d))),(6,.o (.a (.slg 2 r))),(7,.o (.a (.v (.slice none 0 0))))]
section
variable (A:List Lf) (n c:Nat) (ty:TypeId) (B:List Lf) (m d:Nat) (ty2:TypeId)
theorem iBx (us:List Value) (lo:Nat) (hi:Option Nat) (r:Nat):oI (MBx n c m d r) (mx A ty B ty2 us lo hi):=by delta oI;kernel_rfl
theorem oAx (us:List Value) (lo:Nat) (hi:Option Nat) (r:Nat) (j:Int) (g:Nat→SV):oX Γ 300 L2 (fill g 0 (MAx n c m d r j)) (mx A ty B ty2 us lo hi) [(13,[.b false])] (.exit 0) (MBx n c m d r) (mx A ty B ty2 us lo hi) [decide (j<n)=false]:=by delta oX;kernel_rfl
theorem aA (g:Nat→SV):oX Γ 300 A2 (fill g 0 (M0 n c m d )) (m0 A ty B ty2) [] .normal (MA n c m d 0) (m0 A ty B ty2) []:=by delta oX;kernel_rfl
theorem zA (j j':Int) (z:Lf) (g:Nat→SV):oN [0,1,3] Γ 100 L2 (fill g 0 (MA n c m d j)) (m0 A ty B ty2) [(13,[.b true]),(20,[.ds (ay.enc z.lab)]),(27,[.ds (cLf.enc z)]),(28,[.dyn]),(30,[.n j'])] .normal (MAx n c m d 1 j') (mx A ty B ty2 z.vals 1 none) [decide (j<n)=true,0≤j,j<n,0+aN 0 j 64+32≤(lvals A).length,SV.o (.g (bn (lvals A) (0+aN 0 j 64) 32))=ay.enc z.lab,0≤j,j<n,0+aN 0 j 64+64≤(lvals A).length,SV.o (.g (bn (lvals A) (0+aN 0 j 64) 64))=cLf.enc z,64=1*64,0+0+1*64≤z.vals.length,0<1,Room Tryd.prog 30 1,IntKind.i64.wrap (j+1)=j']:=by delta oN;kernel_rfl
theorem nA (us:List Value) (lo:Nat) (hi:Option Nat) (r:Nat) (j j':Int) (z:Lf) (g:Nat→SV):oX Γ 300 L2 (fill g 0 (MAx n c m d r j)) (mx A ty B ty2 us lo hi) [(13,[.b true]),(20,[.ds (ay.enc z.lab)]),(21,[.s (aI.enc true)]),(30,[.n j'])] .normal (MAx n c m d r j') (mx A ty B ty2 us lo hi) [decide (j<n)=true,0≤j,j<n,0+aN 0 j 64+32≤(lvals A).length,SV.o (.g (bn (lvals A) (0+aN 0 j 64) 32))=ay.enc z.lab,0+0+r*64≤us.length,r≤lo,(us.drop (0+0)).take (r*64)=lvals (av ((us.drop (0+0)).take (r*64))),(av ((us.drop (0+0)).take (r*64))).length=r,r≤4000000,aI.enc (!dF (av ((us.drop (0+0)).take (r*64))) z.lab r)=aI.enc true,IntKind.i64.wrap (j+1)=j']:=by delta oX;kernel_rfl
theorem gA (us:List Value) (r:Nat) (j j':Int) (z:Lf) (g:Nat→SV):oX Γ 300 L2 (fill g 0 (MAx n c m d r j)) (mx A ty B ty2 us (r+1) none) [(13,[.b true]),(20,[.ds (ay.enc z.lab)]),(21,[.s (aI.enc false)]),(27,[.ds (cLf.enc z)]),(28,[.dyn]),(29,[.dyn]),(30,[.n j'])] .normal (MAx n c m d (r+1) j') (mx A ty B ty2 (us++z.vals) (r+1) none) [decide (j<n)=true,0≤j,j<n,0+aN 0 j 64+32≤(lvals A).length,SV.o (.g (bn (lvals A) (0+aN 0 j 64) 32))=ay.enc z.lab,0+0+r*64≤us.length,r≤(r+1),(us.drop (0+0)).take (r*64)=lvals (av ((us.drop (0+0)).take (r*64))),(av ((us.drop (0+0)).take (r*64))).length=r,r≤4000000,aI.enc (!dF (av ((us.drop (0+0)).take (r*64))) z.lab r)=aI.enc false,0≤j,j<n,0+aN 0 j 64+64≤(lvals A).length,SV.o (.g (bn (lvals A) (0+aN 0 j 64) 64))=cLf.enc z,64=1*64,0+0+1*64≤z.vals.length,r*64=us.length,r+1≤r+1,∀v∈z.vals,v.oneCell'=true,IntKind.i64.wrap (j+1)=j']:=by delta oX;kernel_rfl
theorem rA (us:List Value) (lo r:Nat) (j j':Int) (z:Lf) (g:Nat→SV):oN [0,1,4] Γ 100 L2 (fill g 0 (MAx n c m d r j)) (mx A ty B ty2 us lo (some (r+1))) [(13,[.b true]),(20,[.ds (ay.enc z.lab)]),(21,[.s (aI.enc false)]),(27,[.ds (cLf.enc z)]),(28,[.dyn]),(29,[.dyn]),(30,[.n j'])] .normal (MAx n c m d (r+1) j') (mx A ty B ty2 (us++z.vals) (r+1) none) [decide (j<n)=true,0≤j,j<n,0+aN 0 j 64+32≤(lvals A).length,SV.o (.g (bn (lvals A) (0+aN 0 j 64) 32))=ay.enc z.lab,0+0+r*64≤us.length,r≤lo,(us.drop (0+0)).take (r*64)=lvals (av ((us.drop (0+0)).take (r*64))),(av ((us.drop (0+0)).take (r*64))).length=r,r≤4000000,aI.enc (!dF (av ((us.drop (0+0)).take (r*64))) z.lab r)=aI.enc false,0≤j,j<n,0+aN 0 j 64+64≤(lvals A).length,SV.o (.g (bn (lvals A) (0+aN 0 j 64) 64))=cLf.enc z,64=1*64,0+0+1*64≤z.vals.length,r*64=us.length,r+1≤r+1,Room Tryd.prog 30 (r+1),IntKind.i64.wrap (j+1)=j']:=by delta oN;kernel_rfl
end
def MC (n c:Nat) (m d:Nat) (j:Int):List (Option SV):=aD 64 0 [(0,.o (.a (.sld 0 0 0 n c))),(1,.o (.a (.sld 1 0 0 m d))),(6,.o (.a (.v (.slice none 0 0)))),(7,.o (.a (.v (.slice none 0 0)))),(32,.o (.a (aG .i64 m))),(33,.o (.a (aG .i64 j)))]
theorem iC (A:List Lf) (n c:Nat) (ty:TypeId) (B:List Lf) (m d:Nat) (ty2:TypeId) (j:Int):oI (MC n c m d j) (m0 A ty B ty2):=by delta oI;kernel_rfl
def MD:List (Option SV):=aD 64 0 [(6,.o (.a (.v (.slice none 0 0)))),(7,.o (.a (.v (.slice none 0 0))))]
theorem iD (A:List Lf) (ty:TypeId) (B:List Lf) (ty2:TypeId):oI (MD) (m0 A ty B ty2):=by delta oI;kernel_rfl
def MR:List (Option SV):=aD 64 0 [(4,.o (.a (.v (.slice none 0 0)))),(5,.o (.a (.v (.slice none 0 0))))]
theorem iR (A:List Lf) (ty:TypeId) (B:List Lf) (ty2:TypeId):oI (MR) (m0 A ty B ty2):=by delta oI;kernel_rfl
theorem oC (A:List Lf) (n c:Nat) (ty:TypeId) (B:List Lf) (m d:Nat) (ty2:TypeId) (j:Int) (g:Nat→SV):oX Γ 300 L8 (fill g 0 (MC n c m d j)) (m0 A ty B ty2) [(34,[.b false])] (.exit 2) (MD) (m0 A ty B ty2) [decide (j<m)=false]:=by delta oX;kernel_rfl
theorem fD (A:List Lf) (ty:TypeId) (B:List Lf) (ty2:TypeId) (g:Nat→SV):oX Γ 300 D (fill g 0 (MD )) (m0 A ty B ty2) [] .ret (MR) (m0 A ty B ty2) []:=by delta oX;kernel_rfl
theorem zz (A:List Lf) (ty:TypeId) (B:List Lf) (ty2:TypeId) (g:Nat→SV):eRes tys (fill g 0 (MR )) (fun k=>(m0 A ty B ty2 )[k]?) fn.results.toList=some [.a (.v (.slice none 0 0)),.a (.v (.slice none 0 0))]:=by kernel_rfl
theorem aC (A:List Lf) (n c:Nat) (ty:TypeId) (B:List Lf) (m d:Nat) (ty2:TypeId) (g:Nat→SV):oX Γ 300 A8 (fill g 0 (MB n c m d )) (m0 A ty B ty2) [] .normal (MC n c m d 0) (m0 A ty B ty2) []:=by delta oX;kernel_rfl
def MCx (n c:Nat) (m d:Nat) (r:Nat) (j:Int):List (Option SV):=aD 64 0 [(0,.o (.a (.sld 0 0 0 n c))),(1,.o (.a (.sld 1 0 0 m d))),(6,.o (.a (.slg 2 r))),(7,.o (.a (.v (.slice none 0 0)))),(32,.o (.a (aG .i64 m))),(33,.o (.a (aG .i64 j)))]
theorem iCx (A:List Lf) (n c:Nat) (ty:TypeId) (B:List Lf) (m d:Nat) (ty2:TypeId) (us:List Value) (lo:Nat) (hi:Option Nat) (r:Nat) (j:Int):oI (MCx n c m d r j) (mx A ty B ty2 us lo hi):=by delta oI;kernel_rfl
def MDx (r:Nat):List (Option SV):=aD 64 0 [(6,.o (.a (.slg 2 r))),(7,.o (.a (.v (.slice none 0 0))))]
theorem iDx (A:List Lf) (ty:TypeId) (B:List Lf) (ty2:TypeId) (us:List Value) (lo:Nat) (hi:Option Nat) (r:Nat):oI (MDx r) (mx A ty B ty2 us lo hi):=by delta oI;kernel_rfl
def MRx (r:Nat):List (Option SV):=aD 64 0 [(4,.o (.a (.slg 2 r))),(5,.o (.a (.v (.slice none 0 0))))]
theorem iRx (A:List Lf) (ty:TypeId) (B:List Lf) (ty2:TypeId) (us:List Value) (lo:Nat) (hi:Option Nat) (r:Nat):oI (MRx r) (mx A ty B ty2 us lo hi):=by delta oI;kernel_rfl
theorem oCx (A:List Lf) (n c:Nat) (ty:TypeId) (B:List Lf) (m d:Nat) (ty2:TypeId) (us:List Value) (lo:Nat) (hi:Option Nat) (r:Nat) (j:Int) (g:Nat→SV):oX Γ 300 L8 (fill g 0 (MCx n c m d r j)) (mx A ty B ty2 us lo hi) [(34,[.b false])] (.exit 2) (MDx r) (mx A ty B ty2 us lo hi) [decide (j<m)=false]:=by delta oX;kernel_rfl
section
variable (A:List Lf) (ty:TypeId) (B:List Lf) (ty2:TypeId) (us:List Value) (lo:Nat) (hi:Option Nat) (r:Nat) (g:Nat→SV)
theorem fDx:oX Γ 300 D (fill g 0 (MDx r )) (mx A ty B ty2 us lo hi) [] .ret (MRx r) (mx A ty B ty2 us lo hi) []:=by delta oX;kernel_rfl
theorem zzx:eRes tys (fill g 0 (MRx r )) (fun k=>(mx A ty B ty2 us lo hi)[k]?) fn.results.toList=some [.a (.slg 2 r),.a (.v (.slice none 0 0))]:=by kernel_rfl
end
theorem aCx (A:List Lf) (n c:Nat) (ty:TypeId) (B:List Lf) (m d:Nat) (ty2:TypeId) (us:List Value) (lo:Nat) (hi:Option Nat) (r:Nat) (g:Nat→SV):oX Γ 300 A8 (fill g 0 (MBx n c m d r )) (mx A ty B ty2 us lo hi) [] .normal (MCx n c m d r 0) (mx A ty B ty2 us lo hi) []:=by delta oX;kernel_rfl
def MCy (n c:Nat) (m d:Nat) (s:Nat) (j:Int):List (Option SV):=aD 64 0 [(0,.o (.a (.sld 0 0 0 n c))),(1,.o (.a (.sld 1 0 0 m d))),(6,.o (.a (.v (.slice none 0 0)))),(7,.o (.a (.slg 2 s))),(32,.o (.a (aG .i64 m))),(33,.o (.a (aG .i64 j)))]
theorem iCy (A:List Lf) (n c:Nat) (ty:TypeId) (B:List Lf) (m d:Nat) (ty2:TypeId) (vs:List Value) (lp:Nat) (hj:Option Nat) (s:Nat) (j:Int):oI (MCy n c m d s j) (my A ty B ty2 vs lp hj):=by delta oI;kernel_rfl
def MDy (s:Nat):List (Option SV):=aD 64 0 [(6,.o (.a (.v (.slice none 0 0)))),(7,.o (.a (.slg 2 s)))]
theorem iDy (A:List Lf) (ty:TypeId) (B:List Lf) (ty2:TypeId) (vs:List Value) (lp:Nat) (hj:Option Nat) (s:Nat):oI (MDy s) (my A ty B ty2 vs lp hj):=by delta oI;kernel_rfl
def MRy (s:Nat):List (Option SV):=aD 64 0 [(4,.o (.a (.v (.slice none 0 0)))),(5,.o (.a (.slg 2 s)))]
theorem iRy (A:List Lf) (ty:TypeId) (B:List Lf) (ty2:TypeId) (vs:List Value) (lp:Nat) (hj:Option Nat) (s:Nat):oI (MRy s) (my A ty B ty2 vs lp hj):=by delta oI;kernel_rfl
theorem oCy (A:List Lf) (n c:Nat) (ty:TypeId) (B:List Lf) (m d:Nat) (ty2:TypeId) (vs:List Value) (lp:Nat) (hj:Option Nat) (s:Nat) (j:Int) (g:Nat→SV):oX Γ 300 L8 (fill g 0 (MCy n c m d s j)) (my A ty B ty2 vs lp hj) [(34,[.b false])] (.exit 2) (MDy s) (my A ty B ty2 vs lp hj) [decide (j<m)=false]:=by delta oX;kernel_rfl
section
variable (A:List Lf) (ty:TypeId) (B:List Lf) (ty2:TypeId) (vs:List Value) (lp:Nat) (hj:Option Nat) (s:Nat) (g:Nat→SV)
theorem fDy:oX Γ 300 D (fill g 0 (MDy s )) (my A ty B ty2 vs lp hj) [] .ret (MRy s) (my A ty B ty2 vs lp hj) []:=by delta oX;kernel_rfl
theorem zzy:eRes tys (fill g 0 (MRy s )) (fun k=>(my A ty B ty2 vs lp hj)[k]?) fn.results.toList=some [.a (.v (.slice none 0 0)),.a (.slg 2 s)]:=by kernel_rfl
end
def MCxy (n c:Nat) (m d:Nat) (r:Nat) (s:Nat) (j:Int):List (Option SV):=aD 64 0 [(0,.o (.a (.sld 0 0 0 n c))),(1,.o (.a (.sld 1 0 0 m d))),(6,.o (.a (.slg 2 r))),(7,.o (.a (.slg 3 s))),(32,.o (.a (aG .i64 m))),(33,.o (.a (aG .i64 j)))]
theorem iCxy (A:List Lf) (n c:Nat) (ty:TypeId) (B:List Lf) (m d:Nat) (ty2:TypeId) (us:List Value) (lo:Nat) (hi:Option Nat) (vs:List Value) (lp:Nat) (hj:Option Nat) (r:Nat) (s:Nat) (j:Int):oI (MCxy n c m d r s j) (mxy A ty B ty2 us lo hi vs lp hj):=by delta oI;kernel_rfl
def MDxy (r:Nat) (s:Nat):List (Option SV):=aD 64 0 [(6,.o (.a (.slg 2 r))),(7,.o (.a (.slg 3 s)))]
theorem iDxy (A:List Lf) (ty:TypeId) (B:List Lf) (ty2:TypeId) (us:List Value) (lo:Nat) (hi:Option Nat) (vs:List Value) (lp:Nat) (hj:Option Nat) (r:Nat) (s:Nat):oI (MDxy r s) (mxy A ty B ty2 us lo hi vs lp hj):=by delta oI;kernel_rfl
def MRxy (r:Nat) (s:Nat):List (Option SV):=aD 64 0 [(4,.o (.a (.slg 2 r))),(5,.o (.a (.slg 3 s)))]
section
variable (A:List Lf)
theorem iRxy (ty:TypeId) (B:List Lf) (ty2:TypeId) (us:List Value) (lo:Nat) (hi:Option Nat) (vs:List Value) (lp:Nat) (hj:Option Nat) (r:Nat) (s:Nat):oI (MRxy r s) (mxy A ty B ty2 us lo hi vs lp hj):=by delta oI;kernel_rfl
theorem oCxy (n c:Nat) (ty:TypeId) (B:List Lf) (m d:Nat) (ty2:TypeId) (us:List Value) (lo:Nat) (hi:Option Nat) (vs:List Value) (lp:Nat) (hj:Option Nat) (r:Nat) (s:Nat) (j:Int) (g:Nat→SV):oX Γ 300 L8 (fill g 0 (MCxy n c m d r s j)) (mxy A ty B ty2 us lo hi vs lp hj) [(34,[.b false])] (.exit 2) (MDxy r s) (mxy A ty B ty2 us lo hi vs lp hj) [decide (j<m)=false]:=by delta oX;kernel_rfl
theorem fDxy (ty:TypeId) (B:List Lf) (ty2:TypeId) (us:List Value) (lo:Nat) (hi:Option Nat) (vs:List Value) (lp:Nat) (hj:Option Nat) (r:Nat) (s:Nat) (g:Nat→SV):oX Γ 300 D (fill g 0 (MDxy r s )) (mxy A ty B ty2 us lo hi vs lp hj) [] .ret (MRxy r s) (mxy A ty B ty2 us lo hi vs lp hj) []:=by delta oX;kernel_rfl
theorem zzxy (ty:TypeId) (B:List Lf) (ty2:TypeId) (us:List Value) (lo:Nat) (hi:Option Nat) (vs:List Value) (lp:Nat) (hj:Option Nat) (r:Nat) (s:Nat) (g:Nat→SV):eRes tys (fill g 0 (MRxy r s )) (fun k=>(mxy A ty B ty2 us lo hi vs lp hj)[k]?) fn.results.toList=some [.a (.slg 2 r),.a (.slg 3 s)]:=by kernel_rfl
theorem zC (n c:Nat) (ty:TypeId) (B:List Lf) (m d:Nat) (ty2:TypeId) (j j':Int) (z:Lf) (g:Nat→SV):oN [0,1,3] Γ 100 L8 (fill g 0 (MC n c m d j)) (m0 A ty B ty2) [(34,[.b true]),(41,[.ds (ay.enc z.lab)]),(50,[.ds (ay.enc z.lab)]),(58,[.ds (cLf.enc z)]),(59,[.dyn]),(61,[.n j'])] .normal (MCy n c m d 1 j') (my A ty B ty2 z.vals 1 none) [decide (j<m)=true,0≤j,j<m,0+aN 0 j 64+32≤(lvals B).length,SV.o (.g (bn (lvals B) (0+aN 0 j 64) 32))=ay.enc z.lab,0≤j,j<m,0+aN 0 j 64+32≤(lvals B).length,SV.o (.g (bn (lvals B) (0+aN 0 j 64) 32))=ay.enc z.lab,0≤j,j<m,0+aN 0 j 64+64≤(lvals B).length,SV.o (.g (bn (lvals B) (0+aN 0 j 64) 64))=cLf.enc z,64=1*64,0+0+1*64≤z.vals.length,0<1,Room Tryd.prog 30 1,IntKind.i64.wrap (j+1)=j']:=by delta oN;kernel_rfl
theorem nxx (n c:Nat) (ty:TypeId) (B:List Lf) (m d:Nat) (ty2:TypeId) (us:List Value) (lo:Nat) (hi:Option Nat) (r:Nat) (j j':Int) (z:Lf) (g:Nat→SV):oX Γ 300 L8 (fill g 0 (MCx n c m d r j)) (mx A ty B ty2 us lo hi) [(34,[.b true]),(41,[.ds (ay.enc z.lab)]),(42,[.s (aI.enc true)]),(61,[.n j'])] .normal (MCx n c m d r j') (mx A ty B ty2 us lo hi) [decide (j<m)=true,0≤j,j<m,0+aN 0 j 64+32≤(lvals B).length,SV.o (.g (bn (lvals B) (0+aN 0 j 64) 32))=ay.enc z.lab,0+0+r*64≤us.length,r≤lo,(us.drop (0+0)).take (r*64)=lvals (av ((us.drop (0+0)).take (r*64))),(av ((us.drop (0+0)).take (r*64))).length=r,r≤4000000,aI.enc (!dF (av ((us.drop (0+0)).take (r*64))) z.lab r)=aI.enc true,IntKind.i64.wrap (j+1)=j']:=by delta oX;kernel_rfl
theorem zCx (n c:Nat) (ty:TypeId) (B:List Lf) (m d:Nat) (ty2:TypeId) (us:List Value) (lo:Nat) (hi:Option Nat) (r:Nat) (j j':Int) (z:Lf) (g:Nat→SV):oN [0,1,2,4] Γ 100 L8 (fill g 0 (MCx n c m d r j)) (mx A ty B ty2 us lo hi) [(34,[.b true]),(41,[.ds (ay.enc z.lab)]),(42,[.s (aI.enc false)]),(50,[.ds (ay.enc z.lab)]),(58,[.ds (cLf.enc z)]),(59,[.dyn]),(61,[.n j'])] .normal (MCxy n c m d r 1 j') (mxy A ty B ty2 us lo hi z.vals 1 none) [decide (j<m)=true,0≤j,j<m,0+aN 0 j 64+32≤(lvals B).length,SV.o (.g (bn (lvals B) (0+aN 0 j 64) 32))=ay.enc z.lab,0+0+r*64≤us.length,r≤lo,(us.drop (0+0)).take (r*64)=lvals (av ((us.drop (0+0)).take (r*64))),(av ((us.drop (0+0)).take (r*64))).length=r,r≤4000000,aI.enc (!dF (av ((us.drop (0+0)).take (r*64))) z.lab r)=aI.enc false,0≤j,j<m,0+aN 0 j 64+32≤(lvals B).length,SV.o (.g (bn (lvals B) (0+aN 0 j 64) 32))=ay.enc z.lab,0≤j,j<m,0+aN 0 j 64+64≤(lvals B).length,SV.o (.g (bn (lvals B) (0+aN 0 j 64) 64))=cLf.enc z,64=1*64,0+0+1*64≤z.vals.length,0<1,Room Tryd.prog 30 1,IntKind.i64.wrap (j+1)=j']:=by delta oN;kernel_rfl
theorem nyy (n c:Nat) (ty:TypeId) (B:List Lf) (m d:Nat) (ty2:TypeId) (vs:List Value) (lp:Nat) (hj:Option Nat) (s:Nat) (j j':Int) (z:Lf) (g:Nat→SV):oX Γ 300 L8 (fill g 0 (MCy n c m d s j)) (my A ty B ty2 vs lp hj) [(34,[.b true]),(41,[.ds (ay.enc z.lab)]),(50,[.ds (ay.enc z.lab)]),(51,[.s (aI.enc true)]),(61,[.n j'])] .normal (MCy n c m d s j') (my A ty B ty2 vs lp hj) [decide (j<m)=true,0≤j,j<m,0+aN 0 j 64+32≤(lvals B).length,SV.o (.g (bn (lvals B) (0+aN 0 j 64) 32))=ay.enc z.lab,0≤j,j<m,0+aN 0 j 64+32≤(lvals B).length,SV.o (.g (bn (lvals B) (0+aN 0 j 64) 32))=ay.enc z.lab,0+0+s*64≤vs.length,s≤lp,(vs.drop (0+0)).take (s*64)=lvals (av ((vs.drop (0+0)).take (s*64))),(av ((vs.drop (0+0)).take (s*64))).length=s,s≤4000000,aI.enc (!dF (av ((vs.drop (0+0)).take (s*64))) z.lab s)=aI.enc true,IntKind.i64.wrap (j+1)=j']:=by delta oX;kernel_rfl
theorem gCy (n c:Nat) (ty:TypeId) (B:List Lf) (m d:Nat) (ty2:TypeId) (vs:List Value) (s:Nat) (j j':Int) (z:Lf) (g:Nat→SV):oX Γ 300 L8 (fill g 0 (MCy n c m d s j)) (my A ty B ty2 vs (s+1) none) [(34,[.b true]),(41,[.ds (ay.enc z.lab)]),(50,[.ds (ay.enc z.lab)]),(51,[.s (aI.enc false)]),(58,[.ds (cLf.enc z)]),(59,[.dyn]),(60,[.dyn]),(61,[.n j'])] .normal (MCy n c m d (s+1) j') (my A ty B ty2 (vs++z.vals) (s+1) none) [decide (j<m)=true,0≤j,j<m,0+aN 0 j 64+32≤(lvals B).length,SV.o (.g (bn (lvals B) (0+aN 0 j 64) 32))=ay.enc z.lab,0≤j,j<m,0+aN 0 j 64+32≤(lvals B).length,SV.o (.g (bn (lvals B) (0+aN 0 j 64) 32))=ay.enc z.lab,0+0+s*64≤vs.length,s≤(s+1),(vs.drop (0+0)).take (s*64)=lvals (av ((vs.drop (0+0)).take (s*64))),(av ((vs.drop (0+0)).take (s*64))).length=s,s≤4000000,aI.enc (!dF (av ((vs.drop (0+0)).take (s*64))) z.lab s)=aI.enc false,0≤j,j<m,0+aN 0 j 64+64≤(lvals B).length,SV.o (.g (bn (lvals B) (0+aN 0 j 64) 64))=cLf.enc z,64=1*64,0+0+1*64≤z.vals.length,s*64=vs.length,s+1≤s+1,∀v∈z.vals,v.oneCell'=true,IntKind.i64.wrap (j+1)=j']:=by delta oX;kernel_rfl
theorem rCy (n c:Nat) (ty:TypeId) (B:List Lf) (m d:Nat) (ty2:TypeId) (vs:List Value) (lp:Nat) (s:Nat) (j j':Int) (z:Lf) (g:Nat→SV):oN [0,1,4] Γ 100 L8 (fill g 0 (MCy n c m d s j)) (my A ty B ty2 vs lp (some (s+1))) [(34,[.b true]),(41,[.ds (ay.enc z.lab)]),(50,[.ds (ay.enc z.lab)]),(51,[.s (aI.enc false)]),(58,[.ds (cLf.enc z)]),(59,[.dyn]),(60,[.dyn]),(61,[.n j'])] .normal (MCy n c m d (s+1) j') (my A ty B ty2 (vs++z.vals) (s+1) none) [decide (j<m)=true,0≤j,j<m,0+aN 0 j 64+32≤(lvals B).length,SV.o (.g (bn (lvals B) (0+aN 0 j 64) 32))=ay.enc z.lab,0≤j,j<m,0+aN 0 j 64+32≤(lvals B).length,SV.o (.g (bn (lvals B) (0+aN 0 j 64) 32))=ay.enc z.lab,0+0+s*64≤vs.length,s≤lp,(vs.drop (0+0)).take (s*64)=lvals (av ((vs.drop (0+0)).take (s*64))),(av ((vs.drop (0+0)).take (s*64))).length=s,s≤4000000,aI.enc (!dF (av ((vs.drop (0+0)).take (s*64))) z.lab s)=aI.enc false,0≤j,j<m,0+aN 0 j 64+64≤(lvals B).length,SV.o (.g (bn (lvals B) (0+aN 0 j 64) 64))=cLf.enc z,64=1*64,0+0+1*64≤z.vals.length,s*64=vs.length,s+1≤s+1,Room Tryd.prog 30 (s+1),IntKind.i64.wrap (j+1)=j']:=by delta oN;kernel_rfl
theorem nxxy (n c:Nat) (ty:TypeId) (B:List Lf) (m d:Nat) (ty2:TypeId) (us:List Value) (lo:Nat) (hi:Option Nat) (vs:List Value) (lp:Nat) (hj:Option Nat) (r:Nat) (s:Nat) (j j':Int) (z:Lf) (g:Nat→SV):oX Γ 300 L8 (fill g 0 (MCxy n c m d r s j)) (mxy A ty B ty2 us lo hi vs lp hj) [(34,[.b true]),(41,[.ds (ay.enc z.lab)]),(42,[.s (aI.enc true)]),(61,[.n j'])] .normal (MCxy n c m d r s j') (mxy A ty B ty2 us lo hi vs lp hj) [decide (j<m)=true,0≤j,j<m,0+aN 0 j 64+32≤(lvals B).length,SV.o (.g (bn (lvals B) (0+aN 0 j 64) 32))=ay.enc z.lab,0+0+r*64≤us.length,r≤lo,(us.drop (0+0)).take (r*64)=lvals (av ((us.drop (0+0)).take (r*64))),(av ((us.drop (0+0)).take (r*64))).length=r,r≤4000000,aI.enc (!dF (av ((us.drop (0+0)).take (r*64))) z.lab r)=aI.enc true,IntKind.i64.wrap (j+1)=j']:=by delta oX;kernel_rfl
theorem nyxy (n c:Nat) (ty:TypeId) (B:List Lf) (m d:Nat) (ty2:TypeId) (us:List Value) (lo:Nat) (hi:Option Nat) (vs:List Value) (lp:Nat) (hj:Option Nat) (r:Nat) (s:Nat) (j j':Int) (z:Lf) (g:Nat→SV):oX Γ 300 L8 (fill g 0 (MCxy n c m d r s j)) (mxy A ty B ty2 us lo hi vs lp hj) [(34,[.b true]),(41,[.ds (ay.enc z.lab)]),(42,[.s (aI.enc false)]),(50,[.ds (ay.enc z.lab)]),(51,[.s (aI.enc true)]),(61,[.n j'])] .normal (MCxy n c m d r s j') (mxy A ty B ty2 us lo hi vs lp hj) [decide (j<m)=true,0≤j,j<m,0+aN 0 j 64+32≤(lvals B).length,SV.o (.g (bn (lvals B) (0+aN 0 j 64) 32))=ay.enc z.lab,0+0+r*64≤us.length,r≤lo,(us.drop (0+0)).take (r*64)=lvals (av ((us.drop (0+0)).take (r*64))),(av ((us.drop (0+0)).take (r*64))).length=r,r≤4000000,aI.enc (!dF (av ((us.drop (0+0)).take (r*64))) z.lab r)=aI.enc false,0≤j,j<m,0+aN 0 j 64+32≤(lvals B).length,SV.o (.g (bn (lvals B) (0+aN 0 j 64) 32))=ay.enc z.lab,0+0+s*64≤vs.length,s≤lp,(vs.drop (0+0)).take (s*64)=lvals (av ((vs.drop (0+0)).take (s*64))),(av ((vs.drop (0+0)).take (s*64))).length=s,s≤4000000,aI.enc (!dF (av ((vs.drop (0+0)).take (s*64))) z.lab s)=aI.enc true,IntKind.i64.wrap (j+1)=j']:=by delta oX;kernel_rfl
theorem gCxy (n c:Nat) (ty:TypeId) (B:List Lf) (m d:Nat) (ty2:TypeId) (us:List Value) (lo:Nat) (hi:Option Nat) (vs:List Value) (r:Nat) (s:Nat) (j j':Int) (z:Lf) (g:Nat→SV):oX Γ 300 L8 (fill g 0 (MCxy n c m d r s j)) (mxy A ty B ty2 us lo hi vs (s+1) none) [(34,[.b true]),(41,[.ds (ay.enc z.lab)]),(42,[.s (aI.enc false)]),(50,[.ds (ay.enc z.lab)]),(51,[.s (aI.enc false)]),(58,[.ds (cLf.enc z)]),(59,[.dyn]),(60,[.dyn]),(61,[.n j'])] .normal (MCxy n c m d r (s+1) j') (mxy A ty B ty2 us lo hi (vs++z.vals) (s+1) none) [decide (j<m)=true,0≤j,j<m,0+aN 0 j 64+32≤(lvals B).length,SV.o (.g (bn (lvals B) (0+aN 0 j 64) 32))=ay.enc z.lab,0+0+r*64≤us.length,r≤lo,(us.drop (0+0)).take (r*64)=lvals (av ((us.drop (0+0)).take (r*64))),(av ((us.drop (0+0)).take (r*64))).length=r,r≤4000000,aI.enc (!dF (av ((us.drop (0+0)).take (r*64))) z.lab r)=aI.enc false,0≤j,j<m,0+aN 0 j 64+32≤(lvals B).length,SV.o (.g (bn (lvals B) (0+aN 0 j 64) 32))=ay.enc z.lab,0+0+s*64≤vs.length,s≤(s+1),(vs.drop (0+0)).take (s*64)=lvals (av ((vs.drop (0+0)).take (s*64))),(av ((vs.drop (0+0)).take (s*64))).length=s,s≤4000000,aI.enc (!dF (av ((vs.drop (0+0)).take (s*64))) z.lab s)=aI.enc false,0≤j,j<m,0+aN 0 j 64+64≤(lvals B).length,SV.o (.g (bn (lvals B) (0+aN 0 j 64) 64))=cLf.enc z,64=1*64,0+0+1*64≤z.vals.length,s*64=vs.length,s+1≤s+1,∀v∈z.vals,v.oneCell'=true,IntKind.i64.wrap (j+1)=j']:=by delta oX;kernel_rfl
theorem rCxy (n c:Nat) (ty:TypeId) (B:List Lf) (m d:Nat) (ty2:TypeId) (us:List Value) (lo:Nat) (hi:Option Nat) (vs:List Value) (lp:Nat) (r:Nat) (s:Nat) (j j':Int) (z:Lf) (g:Nat→SV):oN [0,1,2,5] Γ 100 L8 (fill g 0 (MCxy n c m d r s j)) (mxy A ty B ty2 us lo hi vs lp (some (s+1))) [(34,[.b true]),(41,[.ds (ay.enc z.lab)]),(42,[.s (aI.enc false)]),(50,[.ds (ay.enc z.lab)]),(51,[.s (aI.enc false)]),(58,[.ds (cLf.enc z)]),(59,[.dyn]),(60,[.dyn]),(61,[.n j'])] .normal (MCxy n c m d r (s+1) j') (mxy A ty B ty2 us lo hi (vs++z.vals) (s+1) none) [decide (j<m)=true,0≤j,j<m,0+aN 0 j 64+32≤(lvals B).length,SV.o (.g (bn (lvals B) (0+aN 0 j 64) 32))=ay.enc z.lab,0+0+r*64≤us.length,r≤lo,(us.drop (0+0)).take (r*64)=lvals (av ((us.drop (0+0)).take (r*64))),(av ((us.drop (0+0)).take (r*64))).length=r,r≤4000000,aI.enc (!dF (av ((us.drop (0+0)).take (r*64))) z.lab r)=aI.enc false,0≤j,j<m,0+aN 0 j 64+32≤(lvals B).length,SV.o (.g (bn (lvals B) (0+aN 0 j 64) 32))=ay.enc z.lab,0+0+s*64≤vs.length,s≤lp,(vs.drop (0+0)).take (s*64)=lvals (av ((vs.drop (0+0)).take (s*64))),(av ((vs.drop (0+0)).take (s*64))).length=s,s≤4000000,aI.enc (!dF (av ((vs.drop (0+0)).take (s*64))) z.lab s)=aI.enc false,0≤j,j<m,0+aN 0 j 64+64≤(lvals B).length,SV.o (.g (bn (lvals B) (0+aN 0 j 64) 64))=cLf.enc z,64=1*64,0+0+1*64≤z.vals.length,s*64=vs.length,s+1≤s+1,Room Tryd.prog 30 (s+1),IntKind.i64.wrap (j+1)=j']:=by delta oN;kernel_rfl
end
end ww
namespace wn
def m0 (A:List Lf) (ty:TypeId):List Blk:=[⟨false,ty,.prv (lvals A)⟩]
def mx (A:List Lf) (ty:TypeId) (us:List Value) (lo:Nat) (hi:Option Nat):List Blk:=[⟨false,ty,.prv (lvals A)⟩,⟨true,30,.grv 64 us lo hi⟩]
def M0 (n c:Nat) (b:Option Addr):List (Option SV):=aD 64 0 [(0,.o (.a (.sld 0 0 0 n c))),(1,.o (.a (.v (.slice b 0 0)))),(6,.o (.a (.v (.slice none 0 0)))),(7,.o (.a (.v (.slice none 0 0))))]
theorem i0 (A:List Lf) (n c:Nat) (ty:TypeId) (b:Option Addr):oI (M0 n c b) (m0 A ty):=by delta oI;kernel_rfl
theorem s0 (A:List Lf) (n c:Nat) (ty:TypeId) (b:Option Addr):oX Γ 300 (eD 2 body) (aK fn [.o (.a (.sld 0 0 0 n c)),.o (.a (.v (.slice b 0 0)))]) (m0 A ty) [] .normal (M0 n c b) (m0 A ty) []:=by delta oX;kernel_rfl
def MA (n c:Nat) (b:Option Addr) (j:Int):List (Option SV):=aD 64 0 [(0,.o (.a (.sld 0 0 0 n c))),(1,.o (.a (.v (.slice b 0 0)))),(6,.o (.a (.v (.slice none 0 0)))),(7,.o (.a (.v (.slice none 0 0)))),(11,.o (.a (aG .i64 n))),(12,.o (.a (aG .i64 j)))]
theorem iA (A:List Lf) (n c:Nat) (ty:TypeId) (b:Option Addr) (j:Int):oI (MA n c b j) (m0 A ty):=by delta oI;kernel_rfl
def MB (n c:Nat) (b:Option Addr):List (Option SV):=aD 64 0 [(0,.o (.a (.sld 0 0 0 n c))),(1,.o (.a (.v (.slice b 0 0)))),(6,.o (.a (.v (.slice none 0 0)))),(7,.o (.a (.v (.slice none 0 0))))]
theorem iB (A:List Lf) (n c:Nat) (ty:TypeId) (b:Option Addr):oI (MB n c b) (m0 A ty):=by delta oI;kernel_rfl
theorem oA (A:List Lf) (n c:Nat) (ty:TypeId) (b:Option Addr) (j:Int) (g:Nat→SV):oX Γ 300 L2 (fill g 0 (MA n c b j)) (m0 A ty) [(13,[.b false])] (.exit 0) (MB n c b) (m0 A ty) [decide (j<n)=false]:=by delta oX;kernel_rfl
def MAx (n c:Nat) (b:Option Addr) (r:Nat) (j:Int):List (Option SV):=aD 64 0 [(0,.o (.a (.sld 0 0 0 n c))),(1,.o (.a (.v (.slice b 0 0)))),(6,.o (.a (.slg 1 r))),(7,.o (.a (.v (.slice none 0 0)))),(11,.o (.a (aG .i64 n))),(12,.o (.a (aG .i64 j)))]
theorem iAx (A:List Lf) (n c:Nat) (ty:TypeId) (b:Option Addr) (us:List Value) (lo:Nat) (hi:Option Nat) (r:Nat) (j:Int):oI (MAx n c b r j) (mx A ty us lo hi):=by delta oI;kernel_rfl
def MBx (n c:Nat) (b:Option Addr) (r:Nat):List (Option SV):=aD 64 0 [(0,.o (.a (.sld 0 0 0 n c))),(1,.o (.a (.v (.slice b 0 0)))),(6,.o (.a (.slg 1 r))),(7,.o (.a (.v (.slice none 0 0))))]
section
variable (A:List Lf) (n c:Nat) (ty:TypeId) (b:Option Addr)
theorem iBx (us:List Value) (lo:Nat) (hi:Option Nat) (r:Nat):oI (MBx n c b r) (mx A ty us lo hi):=by delta oI;kernel_rfl
theorem oAx (us:List Value) (lo:Nat) (hi:Option Nat) (r:Nat) (j:Int) (g:Nat→SV):oX Γ 300 L2 (fill g 0 (MAx n c b r j)) (mx A ty us lo hi) [(13,[.b false])] (.exit 0) (MBx n c b r) (mx A ty us lo hi) [decide (j<n)=false]:=by delta oX;kernel_rfl
theorem aA (g:Nat→SV):oX Γ 300 A2 (fill g 0 (M0 n c b )) (m0 A ty) [] .normal (MA n c b 0) (m0 A ty) []:=by delta oX;kernel_rfl
theorem zA (j j':Int) (z:Lf) (g:Nat→SV):oN [0,2] Γ 100 L2 (fill g 0 (MA n c b j)) (m0 A ty) [(13,[.b true]),(20,[.ds (ay.enc z.lab)]),(27,[.ds (cLf.enc z)]),(28,[.dyn]),(30,[.n j'])] .normal (MAx n c b 1 j') (mx A ty z.vals 1 none) [decide (j<n)=true,0≤j,j<n,0+aN 0 j 64+32≤(lvals A).length,SV.o (.g (bn (lvals A) (0+aN 0 j 64) 32))=ay.enc z.lab,0≤j,j<n,0+aN 0 j 64+64≤(lvals A).length,SV.o (.g (bn (lvals A) (0+aN 0 j 64) 64))=cLf.enc z,64=1*64,0+0+1*64≤z.vals.length,0<1,Room Tryd.prog 30 1,IntKind.i64.wrap (j+1)=j']:=by delta oN;kernel_rfl
theorem nA (us:List Value) (lo:Nat) (hi:Option Nat) (r:Nat) (j j':Int) (z:Lf) (g:Nat→SV):oX Γ 300 L2 (fill g 0 (MAx n c b r j)) (mx A ty us lo hi) [(13,[.b true]),(20,[.ds (ay.enc z.lab)]),(21,[.s (aI.enc true)]),(30,[.n j'])] .normal (MAx n c b r j') (mx A ty us lo hi) [decide (j<n)=true,0≤j,j<n,0+aN 0 j 64+32≤(lvals A).length,SV.o (.g (bn (lvals A) (0+aN 0 j 64) 32))=ay.enc z.lab,0+0+r*64≤us.length,r≤lo,(us.drop (0+0)).take (r*64)=lvals (av ((us.drop (0+0)).take (r*64))),(av ((us.drop (0+0)).take (r*64))).length=r,r≤4000000,aI.enc (!dF (av ((us.drop (0+0)).take (r*64))) z.lab r)=aI.enc true,IntKind.i64.wrap (j+1)=j']:=by delta oX;kernel_rfl
theorem gA (us:List Value) (r:Nat) (j j':Int) (z:Lf) (g:Nat→SV):oX Γ 300 L2 (fill g 0 (MAx n c b r j)) (mx A ty us (r+1) none) [(13,[.b true]),(20,[.ds (ay.enc z.lab)]),(21,[.s (aI.enc false)]),(27,[.ds (cLf.enc z)]),(28,[.dyn]),(29,[.dyn]),(30,[.n j'])] .normal (MAx n c b (r+1) j') (mx A ty (us++z.vals) (r+1) none) [decide (j<n)=true,0≤j,j<n,0+aN 0 j 64+32≤(lvals A).length,SV.o (.g (bn (lvals A) (0+aN 0 j 64) 32))=ay.enc z.lab,0+0+r*64≤us.length,r≤(r+1),(us.drop (0+0)).take (r*64)=lvals (av ((us.drop (0+0)).take (r*64))),(av ((us.drop (0+0)).take (r*64))).length=r,r≤4000000,aI.enc (!dF (av ((us.drop (0+0)).take (r*64))) z.lab r)=aI.enc false,0≤j,j<n,0+aN 0 j 64+64≤(lvals A).length,SV.o (.g (bn (lvals A) (0+aN 0 j 64) 64))=cLf.enc z,64=1*64,0+0+1*64≤z.vals.length,r*64=us.length,r+1≤r+1,∀v∈z.vals,v.oneCell'=true,IntKind.i64.wrap (j+1)=j']:=by delta oX;kernel_rfl
theorem rA (us:List Value) (lo r:Nat) (j j':Int) (z:Lf) (g:Nat→SV):oN [0,3] Γ 100 L2 (fill g 0 (MAx n c b r j)) (mx A ty us lo (some (r+1))) [(13,[.b true]),(20,[.ds (ay.enc z.lab)]),(21,[.s (aI.enc false)]),(27,[.ds (cLf.enc z)]),(28,[.dyn]),(29,[.dyn]),(30,[.n j'])] .normal (MAx n c b (r+1) j') (mx A ty (us++z.vals) (r+1) none) [decide (j<n)=true,0≤j,j<n,0+aN 0 j 64+32≤(lvals A).length,SV.o (.g (bn (lvals A) (0+aN 0 j 64) 32))=ay.enc z.lab,0+0+r*64≤us.length,r≤lo,(us.drop (0+0)).take (r*64)=lvals (av ((us.drop (0+0)).take (r*64))),(av ((us.drop (0+0)).take (r*64))).length=r,r≤4000000,aI.enc (!dF (av ((us.drop (0+0)).take (r*64))) z.lab r)=aI.enc false,0≤j,j<n,0+aN 0 j 64+64≤(lvals A).length,SV.o (.g (bn (lvals A) (0+aN 0 j 64) 64))=cLf.enc z,64=1*64,0+0+1*64≤z.vals.length,r*64=us.length,r+1≤r+1,Room Tryd.prog 30 (r+1),IntKind.i64.wrap (j+1)=j']:=by delta oN;kernel_rfl
end
def MC (n c:Nat) (b:Option Addr):List (Option SV):=aD 64 0 [(0,.o (.a (.sld 0 0 0 n c))),(1,.o (.a (.v (.slice b 0 0)))),(6,.o (.a (.v (.slice none 0 0)))),(7,.o (.a (.v (.slice none 0 0)))),(32,.o (.a (aG .i64 0))),(33,.o (.a (aG .i64 0)))]
theorem iC (A:List Lf) (n c:Nat) (ty:TypeId) (b:Option Addr):oI (MC n c b) (m0 A ty):=by delta oI;kernel_rfl
def MD:List (Option SV):=aD 64 0 [(6,.o (.a (.v (.slice none 0 0)))),(7,.o (.a (.v (.slice none 0 0))))]
theorem iD (A:List Lf) (ty:TypeId):oI (MD) (m0 A ty):=by delta oI;kernel_rfl
def MR:List (Option SV):=aD 64 0 [(4,.o (.a (.v (.slice none 0 0)))),(5,.o (.a (.v (.slice none 0 0))))]
theorem iR (A:List Lf) (ty:TypeId):oI (MR) (m0 A ty):=by delta oI;kernel_rfl
theorem oC (A:List Lf) (n c:Nat) (ty:TypeId) (b:Option Addr) (g:Nat→SV):oX Γ 300 L8 (fill g 0 (MC n c b )) (m0 A ty) [] (.exit 2) (MD) (m0 A ty) []:=by delta oX;kernel_rfl
theorem fD (A:List Lf) (ty:TypeId) (g:Nat→SV):oX Γ 300 D (fill g 0 (MD )) (m0 A ty) [] .ret (MR) (m0 A ty) []:=by delta oX;kernel_rfl
theorem zz (A:List Lf) (ty:TypeId) (g:Nat→SV):eRes tys (fill g 0 (MR )) (fun k=>(m0 A ty )[k]?) fn.results.toList=some [.a (.v (.slice none 0 0)),.a (.v (.slice none 0 0))]:=by kernel_rfl
theorem aC (A:List Lf) (n c:Nat) (ty:TypeId) (b:Option Addr) (g:Nat→SV):oX Γ 300 A8 (fill g 0 (MB n c b )) (m0 A ty) [] .normal (MC n c b) (m0 A ty) []:=by delta oX;kernel_rfl
def MCx (n c:Nat) (b:Option Addr) (r:Nat):List (Option SV):=aD 64 0 [(0,.o (.a (.sld 0 0 0 n c))),(1,.o (.a (.v (.slice b 0 0)))),(6,.o (.a (.slg 1 r))),(7,.o (.a (.v (.slice none 0 0)))),(32,.o (.a (aG .i64 0))),(33,.o (.a (aG .i64 0)))]
theorem iCx (A:List Lf) (n c:Nat) (ty:TypeId) (b:Option Addr) (us:List Value) (lo:Nat) (hi:Option Nat) (r:Nat):oI (MCx n c b r) (mx A ty us lo hi):=by delta oI;kernel_rfl
def MDx (r:Nat):List (Option SV):=aD 64 0 [(6,.o (.a (.slg 1 r))),(7,.o (.a (.v (.slice none 0 0))))]
theorem iDx (A:List Lf) (ty:TypeId) (us:List Value) (lo:Nat) (hi:Option Nat) (r:Nat):oI (MDx r) (mx A ty us lo hi):=by delta oI;kernel_rfl
def MRx (r:Nat):List (Option SV):=aD 64 0 [(4,.o (.a (.slg 1 r))),(5,.o (.a (.v (.slice none 0 0))))]
theorem iRx (A:List Lf) (ty:TypeId) (us:List Value) (lo:Nat) (hi:Option Nat) (r:Nat):oI (MRx r) (mx A ty us lo hi):=by delta oI;kernel_rfl
theorem oCx (A:List Lf) (n c:Nat) (ty:TypeId) (b:Option Addr) (us:List Value) (lo:Nat) (hi:Option Nat) (r:Nat) (g:Nat→SV):oX Γ 300 L8 (fill g 0 (MCx n c b r )) (mx A ty us lo hi) [] (.exit 2) (MDx r) (mx A ty us lo hi) []:=by delta oX;kernel_rfl
section
variable (A:List Lf) (ty:TypeId) (us:List Value) (lo:Nat) (hi:Option Nat) (r:Nat) (g:Nat→SV)
theorem fDx:oX Γ 300 D (fill g 0 (MDx r )) (mx A ty us lo hi) [] .ret (MRx r) (mx A ty us lo hi) []:=by delta oX;kernel_rfl
theorem zzx:eRes tys (fill g 0 (MRx r )) (fun k=>(mx A ty us lo hi)[k]?) fn.results.toList=some [.a (.slg 1 r),.a (.v (.slice none 0 0))]:=by kernel_rfl
end
theorem aCx (A:List Lf) (n c:Nat) (ty:TypeId) (b:Option Addr) (us:List Value) (lo:Nat) (hi:Option Nat) (r:Nat) (g:Nat→SV):oX Γ 300 A8 (fill g 0 (MBx n c b r )) (mx A ty us lo hi) [] .normal (MCx n c b r) (mx A ty us lo hi) []:=by delta oX;kernel_rfl
end wn
namespace nw
def m0 (B:List Lf) (ty2:TypeId):List Blk:=[⟨false,ty2,.prv (lvals B)⟩]
def my (B:List Lf) (ty2:TypeId) (vs:List Value) (lp:Nat) (hj:Option Nat):List Blk:=[⟨false,ty2,.prv (lvals B)⟩,⟨true,30,.grv 64 vs lp hj⟩]
section
variable (a:Option Addr)
def M0 (m d:Nat):List (Option SV):=aD 64 0 [(0,.o (.a (.v (.slice a 0 0)))),(1,.o (.a (.sld 0 0 0 m d))),(6,.o (.a (.v (.slice none 0 0)))),(7,.o (.a (.v (.slice none 0 0))))]
theorem i0 (B:List Lf) (m d:Nat) (ty2:TypeId):oI (M0 a m d) (m0 B ty2):=by delta oI;kernel_rfl
theorem s0 (B:List Lf) (m d:Nat) (ty2:TypeId):oX Γ 300 (eD 2 body) (aK fn [.o (.a (.v (.slice a 0 0))),.o (.a (.sld 0 0 0 m d))]) (m0 B ty2) [] .normal (M0 a m d) (m0 B ty2) []:=by delta oX;kernel_rfl
def MA (m d:Nat):List (Option SV):=aD 64 0 [(0,.o (.a (.v (.slice a 0 0)))),(1,.o (.a (.sld 0 0 0 m d))),(6,.o (.a (.v (.slice none 0 0)))),(7,.o (.a (.v (.slice none 0 0)))),(11,.o (.a (aG .i64 0))),(12,.o (.a (aG .i64 0)))]
theorem iA (B:List Lf) (m d:Nat) (ty2:TypeId):oI (MA a m d) (m0 B ty2):=by delta oI;kernel_rfl
def MB (m d:Nat):List (Option SV):=aD 64 0 [(0,.o (.a (.v (.slice a 0 0)))),(1,.o (.a (.sld 0 0 0 m d))),(6,.o (.a (.v (.slice none 0 0)))),(7,.o (.a (.v (.slice none 0 0))))]
theorem iB (B:List Lf) (m d:Nat) (ty2:TypeId):oI (MB a m d) (m0 B ty2):=by delta oI;kernel_rfl
theorem oA (B:List Lf) (m d:Nat) (ty2:TypeId) (g:Nat→SV):oX Γ 300 L2 (fill g 0 (MA a m d )) (m0 B ty2) [] (.exit 0) (MB a m d) (m0 B ty2) []:=by delta oX;kernel_rfl
theorem aA (B:List Lf) (m d:Nat) (ty2:TypeId) (g:Nat→SV):oX Γ 300 A2 (fill g 0 (M0 a m d )) (m0 B ty2) [] .normal (MA a m d) (m0 B ty2) []:=by delta oX;kernel_rfl
def MC (m d:Nat) (j:Int):List (Option SV):=aD 64 0 [(0,.o (.a (.v (.slice a 0 0)))),(1,.o (.a (.sld 0 0 0 m d))),(6,.o (.a (.v (.slice none 0 0)))),(7,.o (.a (.v (.slice none 0 0)))),(32,.o (.a (aG .i64 m))),(33,.o (.a (aG .i64 j)))]
theorem iC (B:List Lf) (m d:Nat) (ty2:TypeId) (j:Int):oI (MC a m d j) (m0 B ty2):=by delta oI;kernel_rfl
end
def MD (a:Option Addr):List (Option SV):=aD 64 0 [(6,.o (.a (.v (.slice none 0 0)))),(7,.o (.a (.v (.slice none 0 0))))]
theorem iD (a:Option Addr) (B:List Lf) (ty2:TypeId):oI (MD a) (m0 B ty2):=by delta oI;kernel_rfl
def MR (a:Option Addr):List (Option SV):=aD 64 0 [(4,.o (.a (.v (.slice none 0 0)))),(5,.o (.a (.v (.slice none 0 0))))]
section
variable (a:Option Addr) (B:List Lf)
theorem iR (ty2:TypeId):oI (MR a) (m0 B ty2):=by delta oI;kernel_rfl
theorem oC (m d:Nat) (ty2:TypeId) (j:Int) (g:Nat→SV):oX Γ 300 L8 (fill g 0 (MC a m d j)) (m0 B ty2) [(34,[.b false])] (.exit 2) (MD a) (m0 B ty2) [decide (j<m)=false]:=by delta oX;kernel_rfl
theorem fD (ty2:TypeId) (g:Nat→SV):oX Γ 300 D (fill g 0 (MD a )) (m0 B ty2) [] .ret (MR a) (m0 B ty2) []:=by delta oX;kernel_rfl
theorem zz (ty2:TypeId) (g:Nat→SV):eRes tys (fill g 0 (MR a )) (fun k=>(m0 B ty2 )[k]?) fn.results.toList=some [.a (.v (.slice none 0 0)),.a (.v (.slice none 0 0))]:=by kernel_rfl
theorem aC (m d:Nat) (ty2:TypeId) (g:Nat→SV):oX Γ 300 A8 (fill g 0 (MB a m d )) (m0 B ty2) [] .normal (MC a m d 0) (m0 B ty2) []:=by delta oX;kernel_rfl
end
def MCy (a:Option Addr) (m d:Nat) (s:Nat) (j:Int):List (Option SV):=aD 64 0 [(0,.o (.a (.v (.slice a 0 0)))),(1,.o (.a (.sld 0 0 0 m d))),(6,.o (.a (.v (.slice none 0 0)))),(7,.o (.a (.slg 1 s))),(32,.o (.a (aG .i64 m))),(33,.o (.a (aG .i64 j)))]
theorem iCy (a:Option Addr) (B:List Lf) (m d:Nat) (ty2:TypeId) (vs:List Value) (lp:Nat) (hj:Option Nat) (s:Nat) (j:Int):oI (MCy a m d s j) (my B ty2 vs lp hj):=by delta oI;kernel_rfl
def MDy (a:Option Addr) (s:Nat):List (Option SV):=aD 64 0 [(6,.o (.a (.v (.slice none 0 0)))),(7,.o (.a (.slg 1 s)))]
theorem iDy (a:Option Addr) (B:List Lf) (ty2:TypeId) (vs:List Value) (lp:Nat) (hj:Option Nat) (s:Nat):oI (MDy a s) (my B ty2 vs lp hj):=by delta oI;kernel_rfl
def MRy (a:Option Addr) (s:Nat):List (Option SV):=aD 64 0 [(4,.o (.a (.v (.slice none 0 0)))),(5,.o (.a (.slg 1 s)))]
section
variable (a:Option Addr) (B:List Lf)
theorem iRy (ty2:TypeId) (vs:List Value) (lp:Nat) (hj:Option Nat) (s:Nat):oI (MRy a s) (my B ty2 vs lp hj):=by delta oI;kernel_rfl
theorem oCy (m d:Nat) (ty2:TypeId) (vs:List Value) (lp:Nat) (hj:Option Nat) (s:Nat) (j:Int) (g:Nat→SV):oX Γ 300 L8 (fill g 0 (MCy a m d s j)) (my B ty2 vs lp hj) [(34,[.b false])] (.exit 2) (MDy a s) (my B ty2 vs lp hj) [decide (j<m)=false]:=by delta oX;kernel_rfl
theorem fDy (ty2:TypeId) (vs:List Value) (lp:Nat) (hj:Option Nat) (s:Nat) (g:Nat→SV):oX Γ 300 D (fill g 0 (MDy a s )) (my B ty2 vs lp hj) [] .ret (MRy a s) (my B ty2 vs lp hj) []:=by delta oX;kernel_rfl
theorem zzy (ty2:TypeId) (vs:List Value) (lp:Nat) (hj:Option Nat) (s:Nat) (g:Nat→SV):eRes tys (fill g 0 (MRy a s )) (fun k=>(my B ty2 vs lp hj)[k]?) fn.results.toList=some [.a (.v (.slice none 0 0)),.a (.slg 1 s)]:=by kernel_rfl
theorem zC (m d:Nat) (ty2:TypeId) (j j':Int) (z:Lf) (g:Nat→SV):oN [0,2] Γ 100 L8 (fill g 0 (MC a m d j)) (m0 B ty2) [(34,[.b true]),(41,[.ds (ay.enc z.lab)]),(50,[.ds (ay.enc z.lab)]),(58,[.ds (cLf.enc z)]),(59,[.dyn]),(61,[.n j'])] .normal (MCy a m d 1 j') (my B ty2 z.vals 1 none) [decide (j<m)=true,0≤j,j<m,0+aN 0 j 64+32≤(lvals B).length,SV.o (.g (bn (lvals B) (0+aN 0 j 64) 32))=ay.enc z.lab,0≤j,j<m,0+aN 0 j 64+32≤(lvals B).length,SV.o (.g (bn (lvals B) (0+aN 0 j 64) 32))=ay.enc z.lab,0≤j,j<m,0+aN 0 j 64+64≤(lvals B).length,SV.o (.g (bn (lvals B) (0+aN 0 j 64) 64))=cLf.enc z,64=1*64,0+0+1*64≤z.vals.length,0<1,Room Tryd.prog 30 1,IntKind.i64.wrap (j+1)=j']:=by delta oN;kernel_rfl
theorem nyy (m d:Nat) (ty2:TypeId) (vs:List Value) (lp:Nat) (hj:Option Nat) (s:Nat) (j j':Int) (z:Lf) (g:Nat→SV):oX Γ 300 L8 (fill g 0 (MCy a m d s j)) (my B ty2 vs lp hj) [(34,[.b true]),(41,[.ds (ay.enc z.lab)]),(50,[.ds (ay.enc z.lab)]),(51,[.s (aI.enc true)]),(61,[.n j'])] .normal (MCy a m d s j') (my B ty2 vs lp hj) [decide (j<m)=true,0≤j,j<m,0+aN 0 j 64+32≤(lvals B).length,SV.o (.g (bn (lvals B) (0+aN 0 j 64) 32))=ay.enc z.lab,0≤j,j<m,0+aN 0 j 64+32≤(lvals B).length,SV.o (.g (bn (lvals B) (0+aN 0 j 64) 32))=ay.enc z.lab,0+0+s*64≤vs.length,s≤lp,(vs.drop (0+0)).take (s*64)=lvals (av ((vs.drop (0+0)).take (s*64))),(av ((vs.drop (0+0)).take (s*64))).length=s,s≤4000000,aI.enc (!dF (av ((vs.drop (0+0)).take (s*64))) z.lab s)=aI.enc true,IntKind.i64.wrap (j+1)=j']:=by delta oX;kernel_rfl
theorem gCy (m d:Nat) (ty2:TypeId) (vs:List Value) (s:Nat) (j j':Int) (z:Lf) (g:Nat→SV):oX Γ 300 L8 (fill g 0 (MCy a m d s j)) (my B ty2 vs (s+1) none) [(34,[.b true]),(41,[.ds (ay.enc z.lab)]),(50,[.ds (ay.enc z.lab)]),(51,[.s (aI.enc false)]),(58,[.ds (cLf.enc z)]),(59,[.dyn]),(60,[.dyn]),(61,[.n j'])] .normal (MCy a m d (s+1) j') (my B ty2 (vs++z.vals) (s+1) none) [decide (j<m)=true,0≤j,j<m,0+aN 0 j 64+32≤(lvals B).length,SV.o (.g (bn (lvals B) (0+aN 0 j 64) 32))=ay.enc z.lab,0≤j,j<m,0+aN 0 j 64+32≤(lvals B).length,SV.o (.g (bn (lvals B) (0+aN 0 j 64) 32))=ay.enc z.lab,0+0+s*64≤vs.length,s≤(s+1),(vs.drop (0+0)).take (s*64)=lvals (av ((vs.drop (0+0)).take (s*64))),(av ((vs.drop (0+0)).take (s*64))).length=s,s≤4000000,aI.enc (!dF (av ((vs.drop (0+0)).take (s*64))) z.lab s)=aI.enc false,0≤j,j<m,0+aN 0 j 64+64≤(lvals B).length,SV.o (.g (bn (lvals B) (0+aN 0 j 64) 64))=cLf.enc z,64=1*64,0+0+1*64≤z.vals.length,s*64=vs.length,s+1≤s+1,∀v∈z.vals,v.oneCell'=true,IntKind.i64.wrap (j+1)=j']:=by delta oX;kernel_rfl
theorem rCy (m d:Nat) (ty2:TypeId) (vs:List Value) (lp:Nat) (s:Nat) (j j':Int) (z:Lf) (g:Nat→SV):oN [0,3] Γ 100 L8 (fill g 0 (MCy a m d s j)) (my B ty2 vs lp (some (s+1))) [(34,[.b true]),(41,[.ds (ay.enc z.lab)]),(50,[.ds (ay.enc z.lab)]),(51,[.s (aI.enc false)]),(58,[.ds (cLf.enc z)]),(59,[.dyn]),(60,[.dyn]),(61,[.n j'])] .normal (MCy a m d (s+1) j') (my B ty2 (vs++z.vals) (s+1) none) [decide (j<m)=true,0≤j,j<m,0+aN 0 j 64+32≤(lvals B).length,SV.o (.g (bn (lvals B) (0+aN 0 j 64) 32))=ay.enc z.lab,0≤j,j<m,0+aN 0 j 64+32≤(lvals B).length,SV.o (.g (bn (lvals B) (0+aN 0 j 64) 32))=ay.enc z.lab,0+0+s*64≤vs.length,s≤lp,(vs.drop (0+0)).take (s*64)=lvals (av ((vs.drop (0+0)).take (s*64))),(av ((vs.drop (0+0)).take (s*64))).length=s,s≤4000000,aI.enc (!dF (av ((vs.drop (0+0)).take (s*64))) z.lab s)=aI.enc false,0≤j,j<m,0+aN 0 j 64+64≤(lvals B).length,SV.o (.g (bn (lvals B) (0+aN 0 j 64) 64))=cLf.enc z,64=1*64,0+0+1*64≤z.vals.length,s*64=vs.length,s+1≤s+1,Room Tryd.prog 30 (s+1),IntKind.i64.wrap (j+1)=j']:=by delta oN;kernel_rfl
end
end nw
namespace nn
def m0:List Blk:=[]
section
variable (a:Option Addr) (b:Option Addr)
def M0:List (Option SV):=aD 64 0 [(0,.o (.a (.v (.slice a 0 0)))),(1,.o (.a (.v (.slice b 0 0)))),(6,.o (.a (.v (.slice none 0 0)))),(7,.o (.a (.v (.slice none 0 0))))]
theorem i0:oI (M0 a b) (m0):=by delta oI;kernel_rfl
theorem s0:oX Γ 300 (eD 2 body) (aK fn [.o (.a (.v (.slice a 0 0))),.o (.a (.v (.slice b 0 0)))]) (m0) [] .normal (M0 a b) (m0) []:=by delta oX;kernel_rfl
def MA:List (Option SV):=aD 64 0 [(0,.o (.a (.v (.slice a 0 0)))),(1,.o (.a (.v (.slice b 0 0)))),(6,.o (.a (.v (.slice none 0 0)))),(7,.o (.a (.v (.slice none 0 0)))),(11,.o (.a (aG .i64 0))),(12,.o (.a (aG .i64 0)))]
theorem iA:oI (MA a b) (m0):=by delta oI;kernel_rfl
def MB:List (Option SV):=aD 64 0 [(0,.o (.a (.v (.slice a 0 0)))),(1,.o (.a (.v (.slice b 0 0)))),(6,.o (.a (.v (.slice none 0 0)))),(7,.o (.a (.v (.slice none 0 0))))]
theorem iB:oI (MB a b) (m0):=by delta oI;kernel_rfl
theorem oA (g:Nat→SV):oX Γ 300 L2 (fill g 0 (MA a b )) (m0) [] (.exit 0) (MB a b) (m0) []:=by delta oX;kernel_rfl
theorem aA (g:Nat→SV):oX Γ 300 A2 (fill g 0 (M0 a b )) (m0) [] .normal (MA a b) (m0) []:=by delta oX;kernel_rfl
def MC:List (Option SV):=aD 64 0 [(0,.o (.a (.v (.slice a 0 0)))),(1,.o (.a (.v (.slice b 0 0)))),(6,.o (.a (.v (.slice none 0 0)))),(7,.o (.a (.v (.slice none 0 0)))),(32,.o (.a (aG .i64 0))),(33,.o (.a (aG .i64 0)))]
theorem iC:oI (MC a b) (m0):=by delta oI;kernel_rfl
end
def MD (a:Option Addr):List (Option SV):=aD 64 0 [(6,.o (.a (.v (.slice none 0 0)))),(7,.o (.a (.v (.slice none 0 0))))]
theorem iD (a:Option Addr):oI (MD a) (m0):=by delta oI;kernel_rfl
def MR (a:Option Addr):List (Option SV):=aD 64 0 [(4,.o (.a (.v (.slice none 0 0)))),(5,.o (.a (.v (.slice none 0 0))))]
theorem iR (a:Option Addr):oI (MR a) (m0):=by delta oI;kernel_rfl
theorem oC (a:Option Addr) (b:Option Addr) (g:Nat→SV):oX Γ 300 L8 (fill g 0 (MC a b )) (m0) [] (.exit 2) (MD a) (m0) []:=by delta oX;kernel_rfl
theorem fD (a:Option Addr) (g:Nat→SV):oX Γ 300 D (fill g 0 (MD a )) (m0) [] .ret (MR a) (m0) []:=by delta oX;kernel_rfl
theorem zz (a:Option Addr) (g:Nat→SV):eRes tys (fill g 0 (MR a )) (fun k=>(m0 )[k]?) fn.results.toList=some [.a (.v (.slice none 0 0)),.a (.v (.slice none 0 0))]:=by kernel_rfl
theorem aC (a:Option Addr) (b:Option Addr) (g:Nat→SV):oX Γ 300 A8 (fill g 0 (MB a b )) (m0) [] .normal (MC a b) (m0) []:=by delta oX;kernel_rfl
end nn
end apt
namespace apt
theorem win (X:List Lf):((lvals X).drop (0+0)).take (X.length*64)=lvals X:=by
 rw[show(lvals X).drop (0+0)=lvals X from rfl,←bU X,List.take_length]
theorem inq {X:List Lf} {lo:Nat} (hX:X.length≤4000000) (hlo:X.length≤lo) {x:B32} {b:Bool} (hb:dF X x X.length=b):
  0+0+X.length*64≤(lvals X).length∧X.length≤lo∧((lvals X).drop (0+0)).take (X.length*64)=lvals (av (((lvals X).drop (0+0)).take (X.length*64)))∧(av (((lvals X).drop (0+0)).take (X.length*64))).length=X.length∧X.length≤4000000∧aI.enc (!dF (av (((lvals X).drop (0+0)).take (X.length*64))) x X.length)=aI.enc (!b):=by
 rw[win,bW,hb]
 exact⟨by rw[bU];omega,hlo,rfl,rfl,hX,rfl⟩
theorem oh (z:Lf):lvals [z]=z.vals:=List.append_nil _
theorem oH (X:List Lf) (z:Lf):lvals (X++[z])=lvals X++z.vals:=by rw[rV,oh]
theorem rC (X:List Lf) (z:Lf):(X++[z]).length=X.length+1:=by simp
def Q (X Y:List Lf) (r:SV) (m:List Blk):Prop:=match X,Y with
 | [],[]=>bJ (iY [.a (.v (.slice none 0 0)),.a (.v (.slice none 0 0))]) .none r m
 | x::X,[]=>bJ (iY [.a (.slg 0 (x::X).length),.a (.v (.slice none 0 0))]) (.new 30 (.grv 64 (lvals (x::X)) (x::X).length none)) r m
 | [],y::Y=>bJ (iY [.a (.v (.slice none 0 0)),.a (.slg 0 (y::Y).length)]) (.new 30 (.grv 64 (lvals (y::Y)) (y::Y).length none)) r m
 | x::X,y::Y=>ends2 (iY [.a (.slg 0 (x::X).length),.a (.slg 1 (y::Y).length)]) ⟨true,30,.grv 64 (lvals (x::X)) (x::X).length none⟩ ⟨true,30,.grv 64 (lvals (y::Y)) (y::Y).length none⟩ r m
namespace ww
def TC (n c:Nat) (m d:Nat) (X Y:List Lf) (j:Int):List (Option SV):=match X,Y with
 | [],[]=>MC n c m d j
 | x::X,[]=>MCx n c m d (x::X).length j
 | [],y::Y=>MCy n c m d (y::Y).length j
 | x::X,y::Y=>MCxy n c m d (x::X).length (y::Y).length j
def TD (X Y:List Lf):List (Option SV):=match X,Y with
 | [],[]=>MD
 | x::X,[]=>MDx (x::X).length
 | [],y::Y=>MDy (y::Y).length
 | x::X,y::Y=>MDxy (x::X).length (y::Y).length
def TM (A:List Lf) (ty:TypeId) (B:List Lf) (ty2:TypeId) (X Y:List Lf):List Blk:=match X,Y with
 | [],[]=>m0 A ty B ty2
 | x::X,[]=>mx A ty B ty2 (lvals (x::X)) (x::X).length none
 | [],y::Y=>my A ty B ty2 (lvals (y::Y)) (y::Y).length none
 | x::X,y::Y=>mxy A ty B ty2 (lvals (x::X)) (x::X).length none (lvals (y::Y)) (y::Y).length none
def TA (n c:Nat) (m d:Nat) (X:List Lf) (j:Int):List (Option SV):=match X with
 | []=>MA n c m d j
 | x::X=>MAx n c m d (x::X).length j
def TB (n c:Nat) (m d:Nat) (X:List Lf):List (Option SV):=match X with
 | []=>MB n c m d
 | x::X=>MBx n c m d (x::X).length
section
variable (A:List Lf)
def TX (ty:TypeId) (B:List Lf) (ty2:TypeId) (X:List Lf):List Blk:=match X with
 | []=>m0 A ty B ty2
 | x::X=>mx A ty B ty2 (lvals (x::X)) (x::X).length none
theorem stepA (n c:Nat) (ty:TypeId) (B:List Lf) (m d:Nat) (ty2:TypeId) (hn:A.length=n) (hm:n≤4000000) (i:Nat) (hi:i<n) (g:Nat→SV) {Post:Ex→List SV→List Blk→Prop} (h:∀g,Post .normal (fill g 0 (TA n c m d (bY A (i+1)) ((i+1:Nat):Int))) (TX A ty B ty2 (bY A (i+1)))):
  aF Tryd.prog GT 2 L2 (fill g 0 (TA n c m d (bY A i) (i:Int))) (TX A ty B ty2 (bY A i)) Post:=by
 obtain⟨c1,c2⟩:=dst.tu A (show i<A.length by omega)
 obtain⟨d1,d2⟩:=dst.tC A (show i<A.length by omega)
 have hw:IntKind.i64.wrap ((i:Int)+1)=((i+1:Nat):Int):=by rw[IntKind.wrap_i64];omega
 have hle:=pX A i
 have hs:bY A (i+1)=(bif dF (bY A i) (A.getD i zl).lab (bY A i).length then bY A i++[A.getD i zl] else bY A i):=rfl
 rw[hs] at h
 generalize bY A i=X at h hle ⊢
 clear hs
 cases X with
 | nil=>
  have h':∀g,Post .normal (fill g 0 (MAx n c m d 1 ((i+1:Nat):Int))) (mx A ty B ty2 (A.getD i zl).vals 1 none):=fun g=>by rw[←oh];exact h g
  exact Runs.aP aj mixed [0,1,3] (zA A n c ty B m d ty2 (i:Int) _ (A.getD i zl) g) ⟨decide_eq_true (by omega),by omega,by omega,c1,c2,by omega,by omega,d1,d2,rfl,by rw[Lf.dG];omega,by omega,iw 1 (by omega),hw,trivial⟩ (iAx A n c ty B m d ty2 _ _ _ _ _) rfl h'
 | cons x X=>
  show aF Tryd.prog GT 2 L2 (fill g 0 (MAx n c m d (x::X).length (i:Int))) (mx A ty B ty2 (lvals (x::X)) (x::X).length none) Post
  cases hq:dF (x::X) (A.getD i zl).lab (x::X).length with
  | false=>
   rw[hq,cond_false] at h
   obtain⟨q1,q2,q3,q4,q5,q6⟩:=inq (lo:=(x::X).length) (by omega) (Nat.le_refl _) hq
   exact Runs.au aj mixed (nA A n c ty B m d ty2 _ _ none _ (i:Int) _ (A.getD i zl) g) ⟨decide_eq_true (by omega),by omega,by omega,c1,c2,q1,q2,q3,q4,q5,q6,hw,trivial⟩ (iAx A n c ty B m d ty2 _ _ _ _ _) rfl h
  | true=>
   rw[hq,cond_true] at h
   have h':∀g,Post .normal (fill g 0 (MAx n c m d ((x::X).length+1) ((i+1:Nat):Int))) (mx A ty B ty2 (lvals (x::X)++(A.getD i zl).vals) ((x::X).length+1) none):=fun g=>by rw[←oH,←rC (x::X) (A.getD i zl)];exact h g
   have hlo:=bU (x::X)
   obtain⟨q1,q2,q3,q4,q5,q6⟩:=inq (lo:=(x::X).length+1) (by omega) (Nat.le_succ _) hq
   refine Runs.mh 2 ((x::X).length+1) (own:=true) (ty:=30) (s:=64) (vs:=lvals (x::X)) (lo:=(x::X).length) rfl ?_ ?_
   ·exact Runs.au aj mixed (gA A n c ty B m d ty2 _ _ (i:Int) _ (A.getD i zl) g) ⟨decide_eq_true (by omega),by omega,by omega,c1,c2,q1,q2,q3,q4,q5,q6,by omega,by omega,d1,d2,rfl,by rw[Lf.dG];omega,by omega,Nat.le_refl _,dst.oneLv _,hw,trivial⟩ (iAx A n c ty B m d ty2 _ _ _ _ _) rfl h'
   ·exact Runs.aP aj mixed [0,1,4] (rA A n c ty B m d ty2 _ _ _ (i:Int) _ (A.getD i zl) g) ⟨decide_eq_true (by omega),by omega,by omega,c1,c2,q1,Nat.le_refl _,q3,q4,q5,q6,by omega,by omega,d1,d2,rfl,by rw[Lf.dG];omega,by omega,Nat.le_refl _,iw _ (by omega),hw,trivial⟩ (iAx A n c ty B m d ty2 _ _ _ _ _) rfl h'
theorem pre8 (n c:Nat) (ty:TypeId) (B:List Lf) (m d:Nat) (ty2:TypeId) (X:List Lf) (g:Nat→SV) {Post:Ex→List SV→List Blk→Prop} (h:∀g,Post .normal (fill g 0 (TC n c m d X [] 0)) (TM A ty B ty2 X [])):aF Tryd.prog GT 2 A8 (fill g 0 (TB n c m d X)) (TX A ty B ty2 X) Post:=by
 cases X with
 | nil=>exact Runs.au aj mixed (aC A n c ty B m d ty2 g) trivial (iC A n c ty B m d ty2 _) rfl h
 | cons x X=>exact Runs.au aj mixed (aCx A n c ty B m d ty2 _ _ _ _ g) trivial (iCx A n c ty B m d ty2 _ _ _ _ _) rfl h
theorem end8 (n c:Nat) (ty:TypeId) (B:List Lf) (m d:Nat) (ty2:TypeId) (X:List Lf) (Y:List Lf) (j:Int) (hj:¬j<m) (g:Nat→SV) {Post:Ex→List SV→List Blk→Prop} (h:∀g,Post (.exit 2) (fill g 0 (TD X Y)) (TM A ty B ty2 X Y)):aF Tryd.prog GT 2 L8 (fill g 0 (TC n c m d X Y j)) (TM A ty B ty2 X Y) Post:=by
 cases X with
 | nil=>
  cases Y with
  | nil=>
   exact Runs.au aj mixed (oC A n c ty B m d ty2 _ g) ⟨decide_eq_false hj,trivial⟩ (iD A ty B ty2 ) rfl h
  | cons y Y=>
   exact Runs.au aj mixed (oCy A n c ty B m d ty2 _ _ _ _ _ g) ⟨decide_eq_false hj,trivial⟩ (iDy A ty B ty2 _ _ _ _ ) rfl h
 | cons x X=>
  cases Y with
  | nil=>
   exact Runs.au aj mixed (oCx A n c ty B m d ty2 _ _ _ _ _ g) ⟨decide_eq_false hj,trivial⟩ (iDx A ty B ty2 _ _ _ _ ) rfl h
  | cons y Y=>
   exact Runs.au aj mixed (oCxy A n c ty B m d ty2 _ _ _ _ _ _ _ _ _ g) ⟨decide_eq_false hj,trivial⟩ (iDxy A ty B ty2 _ _ _ _ _ _ _ _ ) rfl h
theorem endD (n c:Nat) (ty:TypeId) (B:List Lf) (m d:Nat) (ty2:TypeId) (X:List Lf) (Y:List Lf) (g:Nat→SV):aF Tryd.prog GT 2 D (fill g 0 (TD X Y)) (TM A ty B ty2 X Y) (aH tys fn (Q X Y)):=by
 cases X with
 | nil=>
  cases Y with
  | nil=>
   exact Runs.au aj mixed (fD A ty B ty2 g) trivial (iR A ty B ty2 ) rfl fun g=>aH.ret (zz A ty B ty2 g) rfl
  | cons y Y=>
   exact Runs.au aj mixed (fDy A ty B ty2 _ _ _ _ g) trivial (iRy A ty B ty2 _ _ _ _ ) rfl fun g=>aH.ret (zzy A ty B ty2 _ _ _ _ g) ⟨2,rfl,rfl⟩
 | cons x X=>
  cases Y with
  | nil=>
   exact Runs.au aj mixed (fDx A ty B ty2 _ _ _ _ g) trivial (iRx A ty B ty2 _ _ _ _ ) rfl fun g=>aH.ret (zzx A ty B ty2 _ _ _ _ g) ⟨2,rfl,rfl⟩
  | cons y Y=>
   exact Runs.au aj mixed (fDxy A ty B ty2 _ _ _ _ _ _ _ _ g) trivial (iRxy A ty B ty2 _ _ _ _ _ _ _ _ ) rfl fun g=>aH.ret (zzxy A ty B ty2 _ _ _ _ _ _ _ _ g) ⟨2,3,by decide,rfl,rfl,rfl⟩
theorem stepC (n c:Nat) (ty:TypeId) (B:List Lf) (m d:Nat) (ty2:TypeId) (hk:B.length=m) (hl:m≤4000000) (X:List Lf) (hX:X.length≤4000000) (Y:List Lf) (i:Nat) (hi:i<m) (hyl:Y.length≤i) (g:Nat→SV) {Post:Ex→List SV→List Blk→Prop} (h:∀g,Post .normal (fill g 0 (TC n c m d X (bif dF X (B.getD i zl).lab X.length&&dF Y (B.getD i zl).lab Y.length then Y++[B.getD i zl] else Y) ((i+1:Nat):Int))) (TM A ty B ty2 X (bif dF X (B.getD i zl).lab X.length&&dF Y (B.getD i zl).lab Y.length then Y++[B.getD i zl] else Y))):
  aF Tryd.prog GT 2 L8 (fill g 0 (TC n c m d X Y (i:Int))) (TM A ty B ty2 X Y) Post:=by
 obtain⟨c1,c2⟩:=dst.tu B (show i<B.length by omega)
 obtain⟨d1,d2⟩:=dst.tC B (show i<B.length by omega)
 have hw:IntKind.i64.wrap ((i:Int)+1)=((i+1:Nat):Int):=by rw[IntKind.wrap_i64];omega
 cases X with
 | nil=>
  cases Y with
  | nil=>
   have h':∀g,Post .normal (fill g 0 (MCy n c m d 1 ((i+1:Nat):Int))) (my A ty B ty2 (B.getD i zl).vals 1 none):=fun g=>by rw[←oh];exact h g
   exact Runs.aP aj mixed [0,1,3] (zC A n c ty B m d ty2 (i:Int) _ (B.getD i zl) g) ⟨decide_eq_true (by omega),by omega,by omega,c1,c2,by omega,by omega,c1,c2,by omega,by omega,d1,d2,rfl,by rw[Lf.dG];omega,by omega,iw 1 (by omega),hw,trivial⟩ (iCy A n c ty B m d ty2 _ _ _ _ _) rfl h'
  | cons y Y=>
   show aF Tryd.prog GT 2 L8 (fill g 0 (MCy n c m d (y::Y).length (i:Int))) (my A ty B ty2 (lvals (y::Y)) (y::Y).length none) Post
   have h:∀g,Post .normal (fill g 0 (TC n c m d [] (bif dF (y::Y) (B.getD i zl).lab (y::Y).length then (y::Y)++[B.getD i zl] else (y::Y)) ((i+1:Nat):Int))) (TM A ty B ty2 [] (bif dF (y::Y) (B.getD i zl).lab (y::Y).length then (y::Y)++[B.getD i zl] else (y::Y))):=h
   cases hr:dF (y::Y) (B.getD i zl).lab (y::Y).length with
   | false=>
    rw[hr,cond_false] at h
    obtain⟨v1,v2,v3,v4,v5,v6⟩:=inq (lo:=(y::Y).length) (by omega) (Nat.le_refl _) hr
    exact Runs.au aj mixed (nyy A n c ty B m d ty2 _ _ none _ (i:Int) _ (B.getD i zl) g) ⟨decide_eq_true (by omega),by omega,by omega,c1,c2,by omega,by omega,c1,c2,v1,v2,v3,v4,v5,v6,hw,trivial⟩ (iCy A n c ty B m d ty2 _ _ _ _ _) rfl h
   | true=>
    rw[hr,cond_true] at h
    have h':∀g,Post .normal (fill g 0 (MCy n c m d ((y::Y).length+1) ((i+1:Nat):Int))) (my A ty B ty2 (lvals (y::Y)++(B.getD i zl).vals) ((y::Y).length+1) none):=fun g=>by rw[←oH,←rC (y::Y) (B.getD i zl)];exact h g
    have hlo:=bU (y::Y)
    obtain⟨v1,v2,v3,v4,v5,v6⟩:=inq (lo:=(y::Y).length+1) (by omega) (Nat.le_succ _) hr
    refine Runs.mh 2 ((y::Y).length+1) (own:=true) (ty:=30) (s:=64) (vs:=lvals (y::Y)) (lo:=(y::Y).length) rfl ?_ ?_
    ·exact Runs.au aj mixed (gCy A n c ty B m d ty2 _ _ (i:Int) _ (B.getD i zl) g) ⟨decide_eq_true (by omega),by omega,by omega,c1,c2,by omega,by omega,c1,c2,v1,v2,v3,v4,v5,v6,by omega,by omega,d1,d2,rfl,by rw[Lf.dG];omega,by omega,Nat.le_refl _,dst.oneLv _,hw,trivial⟩ (iCy A n c ty B m d ty2 _ _ _ _ _) rfl h'
    ·exact Runs.aP aj mixed [0,1,4] (rCy A n c ty B m d ty2 _ _ _ (i:Int) _ (B.getD i zl) g) ⟨decide_eq_true (by omega),by omega,by omega,c1,c2,by omega,by omega,c1,c2,v1,Nat.le_refl _,v3,v4,v5,v6,by omega,by omega,d1,d2,rfl,by rw[Lf.dG];omega,by omega,Nat.le_refl _,iw _ (by omega),hw,trivial⟩ (iCy A n c ty B m d ty2 _ _ _ _ _) rfl h'
 | cons x X=>
  cases Y with
  | nil=>
   show aF Tryd.prog GT 2 L8 (fill g 0 (MCx n c m d (x::X).length (i:Int))) (mx A ty B ty2 (lvals (x::X)) (x::X).length none) Post
   cases hq:dF (x::X) (B.getD i zl).lab (x::X).length with
   | false=>
    rw[hq,Bool.false_and,cond_false] at h
    obtain⟨u1,u2,u3,u4,u5,u6⟩:=inq (lo:=(x::X).length) hX (Nat.le_refl _) hq
    exact Runs.au aj mixed (nxx A n c ty B m d ty2 _ _ none _ (i:Int) _ (B.getD i zl) g) ⟨decide_eq_true (by omega),by omega,by omega,c1,c2,u1,u2,u3,u4,u5,u6,hw,trivial⟩ (iCx A n c ty B m d ty2 _ _ _ _ _) rfl h
   | true=>
    rw[hq,Bool.true_and] at h
    obtain⟨u1,u2,u3,u4,u5,u6⟩:=inq (lo:=(x::X).length) hX (Nat.le_refl _) hq
    have h':∀g,Post .normal (fill g 0 (MCxy n c m d (x::X).length 1 ((i+1:Nat):Int))) (mxy A ty B ty2 (lvals (x::X)) (x::X).length none (B.getD i zl).vals 1 none):=fun g=>by rw[←oh];exact h g
    exact Runs.aP aj mixed [0,1,2,4] (zCx A n c ty B m d ty2 _ _ none _ (i:Int) _ (B.getD i zl) g) ⟨decide_eq_true (by omega),by omega,by omega,c1,c2,u1,u2,u3,u4,u5,u6,by omega,by omega,c1,c2,by omega,by omega,d1,d2,rfl,by rw[Lf.dG];omega,by omega,iw 1 (by omega),hw,trivial⟩ (iCxy A n c ty B m d ty2 _ _ _ _ _ _ _ _ _) rfl h'
  | cons y Y=>
   show aF Tryd.prog GT 2 L8 (fill g 0 (MCxy n c m d (x::X).length (y::Y).length (i:Int))) (mxy A ty B ty2 (lvals (x::X)) (x::X).length none (lvals (y::Y)) (y::Y).length none) Post
   cases hq:dF (x::X) (B.getD i zl).lab (x::X).length with
   | false=>
    rw[hq,Bool.false_and,cond_false] at h
    obtain⟨u1,u2,u3,u4,u5,u6⟩:=inq (lo:=(x::X).length) hX (Nat.le_refl _) hq
    exact Runs.au aj mixed (nxxy A n c ty B m d ty2 _ _ none _ _ none _ _ (i:Int) _ (B.getD i zl) g) ⟨decide_eq_true (by omega),by omega,by omega,c1,c2,u1,u2,u3,u4,u5,u6,hw,trivial⟩ (iCxy A n c ty B m d ty2 _ _ _ _ _ _ _ _ _) rfl h
   | true=>
    rw[hq,Bool.true_and] at h
    obtain⟨u1,u2,u3,u4,u5,u6⟩:=inq (lo:=(x::X).length) hX (Nat.le_refl _) hq
    cases hr:dF (y::Y) (B.getD i zl).lab (y::Y).length with
    | false=>
     rw[hr,cond_false] at h
     obtain⟨v1,v2,v3,v4,v5,v6⟩:=inq (lo:=(y::Y).length) (by omega) (Nat.le_refl _) hr
     exact Runs.au aj mixed (nyxy A n c ty B m d ty2 _ _ none _ _ none _ _ (i:Int) _ (B.getD i zl) g) ⟨decide_eq_true (by omega),by omega,by omega,c1,c2,u1,u2,u3,u4,u5,u6,by omega,by omega,c1,c2,v1,v2,v3,v4,v5,v6,hw,trivial⟩ (iCxy A n c ty B m d ty2 _ _ _ _ _ _ _ _ _) rfl h
    | true=>
     rw[hr,cond_true] at h
     have h':∀g,Post .normal (fill g 0 (MCxy n c m d (x::X).length ((y::Y).length+1) ((i+1:Nat):Int))) (mxy A ty B ty2 (lvals (x::X)) (x::X).length none (lvals (y::Y)++(B.getD i zl).vals) ((y::Y).length+1) none):=fun g=>by rw[←oH,←rC (y::Y) (B.getD i zl)];exact h g
     have hlo:=bU (y::Y)
     obtain⟨v1,v2,v3,v4,v5,v6⟩:=inq (lo:=(y::Y).length+1) (by omega) (Nat.le_succ _) hr
     refine Runs.mh 3 ((y::Y).length+1) (own:=true) (ty:=30) (s:=64) (vs:=lvals (y::Y)) (lo:=(y::Y).length) rfl ?_ ?_
     ·exact Runs.au aj mixed (gCxy A n c ty B m d ty2 _ _ none _ _ _ (i:Int) _ (B.getD i zl) g) ⟨decide_eq_true (by omega),by omega,by omega,c1,c2,u1,u2,u3,u4,u5,u6,by omega,by omega,c1,c2,v1,v2,v3,v4,v5,v6,by omega,by omega,d1,d2,rfl,by rw[Lf.dG];omega,by omega,Nat.le_refl _,dst.oneLv _,hw,trivial⟩ (iCxy A n c ty B m d ty2 _ _ _ _ _ _ _ _ _) rfl h'
     ·exact Runs.aP aj mixed [0,1,2,5] (rCxy A n c ty B m d ty2 _ _ none _ _ _ _ (i:Int) _ (B.getD i zl) g) ⟨decide_eq_true (by omega),by omega,by omega,c1,c2,u1,u2,u3,u4,u5,u6,by omega,by omega,c1,c2,v1,Nat.le_refl _,v3,v4,v5,v6,by omega,by omega,d1,d2,rfl,by rw[Lf.dG];omega,by omega,Nat.le_refl _,iw _ (by omega),hw,trivial⟩ (iCxy A n c ty B m d ty2 _ _ _ _ _ _ _ _ _) rfl h'
theorem tail (n c:Nat) (ty:TypeId) (B:List Lf) (m d:Nat) (ty2:TypeId) (hk:B.length=m) (hl:m≤4000000) (X:List Lf) (hX:X.length≤4000000) (g:Nat→SV):aF Tryd.prog GT 2 (.seq (.seq A8 (.block 2 (.loop L8))) D) (fill g 0 (TB n c m d X)) (TX A ty B ty2 X) (aH tys fn (Q X (apB X B m))):=by
 refine Runs.seq (Runs.seq (pre8 A n c ty B m d ty2 X g fun g=> ?_))
 refine Runs.block ?_
 refine Runs.dA (fun(i:Nat)=>TC n c m d X (apB X B i) (i:Int)) (fun i=>TM A ty B ty2 X (apB X B i)) (fun i=>i≤m) (fun i=>m-i) ?_ 0 (Nat.zero_le _) g
 rintro i g hi
 rcases Nat.lt_or_ge i m with h | h
 ·exact stepC A n c ty B m d ty2 hk hl X hX (apB X B i) i h (tK _ _ _) g fun g=>⟨i+1,g,rfl,rfl,h,by omega⟩
 ·rw[show i=m by omega]
  refine end8 A n c ty B m d ty2 X _ _ (by omega) g fun g=> ?_
  show aF _ _ _ _ _ _ _
  exact endD A n c ty B m d ty2 X _ g
theorem run (n c:Nat) (ty:TypeId) (B:List Lf) (m d:Nat) (ty2:TypeId) (hn:A.length=n) (hm:n≤4000000) (hk:B.length=m) (hl:m≤4000000):aF Tryd.prog GT 2 body (aK fn [.o (.a (.sld 0 0 0 n c)),.o (.a (.sld 1 0 0 m d))]) (m0 A ty B ty2 ) (aH tys fn (Q (bY A n) (apB (bY A n) B m))):=by
 refine Runs.dz aj mixed 2 (s0 A n c ty B m d ty2 ) trivial (i0 A n c ty B m d ty2 ) rfl fun g=> ?_
 rw[suf_2]
 refine Runs.seq (Runs.seq (Runs.au aj mixed (aA A n c ty B m d ty2 g) trivial (iA A n c ty B m d ty2 _) rfl fun g=> ?_))
 refine Runs.block ?_
 refine Runs.dA (fun(i:Nat)=>TA n c m d (bY A i) (i:Int)) (fun i=>TX A ty B ty2 (bY A i)) (fun i=>i≤n) (fun i=>n-i) ?_ 0 (Nat.zero_le _) g
 rintro i g hi
 rcases Nat.lt_or_ge i n with h | h
 ·exact stepA A n c ty B m d ty2 hn hm i h g fun g=>⟨i+1,g,rfl,rfl,h,by omega⟩
 ·rw[show i=n by omega]
  have hle:=pX A n
  generalize bY A n=X at hle ⊢
  cases X with
  | nil=>
   refine Runs.au aj mixed (oA A n c ty B m d ty2 _ g) ⟨decide_eq_false (by omega),trivial⟩ (iB A n c ty B m d ty2 ) rfl fun g=> ?_
   show aF _ _ _ _ _ _ _
   exact tail A n c ty B m d ty2 hk hl [] (by omega) g
  | cons x X=>
   refine Runs.au aj mixed (oAx A n c ty B m d ty2 _ _ none _ _ g) ⟨decide_eq_false (by omega),trivial⟩ (iBx A n c ty B m d ty2 _ _ _ _) rfl fun g=> ?_
   show aF _ _ _ _ _ _ _
   exact tail A n c ty B m d ty2 hk hl (x::X) (by omega) g
end
end ww
namespace wn
def TC (n c:Nat) (b:Option Addr) (X Y:List Lf):List (Option SV):=match X,Y with
 | [],[]=>MC n c b
 | x::X,[]=>MCx n c b (x::X).length
 | _,_=>[]
def TD (X Y:List Lf):List (Option SV):=match X,Y with
 | [],[]=>MD
 | x::X,[]=>MDx (x::X).length
 | _,_=>[]
def TM (A:List Lf) (ty:TypeId) (X Y:List Lf):List Blk:=match X,Y with
 | [],[]=>m0 A ty
 | x::X,[]=>mx A ty (lvals (x::X)) (x::X).length none
 | _,_=>[]
def TA (n c:Nat) (b:Option Addr) (X:List Lf) (j:Int):List (Option SV):=match X with
 | []=>MA n c b j
 | x::X=>MAx n c b (x::X).length j
def TB (n c:Nat) (b:Option Addr) (X:List Lf):List (Option SV):=match X with
 | []=>MB n c b
 | x::X=>MBx n c b (x::X).length
section
variable (A:List Lf)
def TX (ty:TypeId) (X:List Lf):List Blk:=match X with
 | []=>m0 A ty
 | x::X=>mx A ty (lvals (x::X)) (x::X).length none
theorem stepA (n c:Nat) (ty:TypeId) (b:Option Addr) (hn:A.length=n) (hm:n≤4000000) (i:Nat) (hi:i<n) (g:Nat→SV) {Post:Ex→List SV→List Blk→Prop} (h:∀g,Post .normal (fill g 0 (TA n c b (bY A (i+1)) ((i+1:Nat):Int))) (TX A ty (bY A (i+1)))):
  aF Tryd.prog GT 1 L2 (fill g 0 (TA n c b (bY A i) (i:Int))) (TX A ty (bY A i)) Post:=by
 obtain⟨c1,c2⟩:=dst.tu A (show i<A.length by omega)
 obtain⟨d1,d2⟩:=dst.tC A (show i<A.length by omega)
 have hw:IntKind.i64.wrap ((i:Int)+1)=((i+1:Nat):Int):=by rw[IntKind.wrap_i64];omega
 have hle:=pX A i
 have hs:bY A (i+1)=(bif dF (bY A i) (A.getD i zl).lab (bY A i).length then bY A i++[A.getD i zl] else bY A i):=rfl
 rw[hs] at h
 generalize bY A i=X at h hle ⊢
 clear hs
 cases X with
 | nil=>
  have h':∀g,Post .normal (fill g 0 (MAx n c b 1 ((i+1:Nat):Int))) (mx A ty (A.getD i zl).vals 1 none):=fun g=>by rw[←oh];exact h g
  exact Runs.aP aj mixed [0,2] (zA A n c ty b (i:Int) _ (A.getD i zl) g) ⟨decide_eq_true (by omega),by omega,by omega,c1,c2,by omega,by omega,d1,d2,rfl,by rw[Lf.dG];omega,by omega,iw 1 (by omega),hw,trivial⟩ (iAx A n c ty b _ _ _ _ _) rfl h'
 | cons x X=>
  show aF Tryd.prog GT 1 L2 (fill g 0 (MAx n c b (x::X).length (i:Int))) (mx A ty (lvals (x::X)) (x::X).length none) Post
  cases hq:dF (x::X) (A.getD i zl).lab (x::X).length with
  | false=>
   rw[hq,cond_false] at h
   obtain⟨q1,q2,q3,q4,q5,q6⟩:=inq (lo:=(x::X).length) (by omega) (Nat.le_refl _) hq
   exact Runs.au aj mixed (nA A n c ty b _ _ none _ (i:Int) _ (A.getD i zl) g) ⟨decide_eq_true (by omega),by omega,by omega,c1,c2,q1,q2,q3,q4,q5,q6,hw,trivial⟩ (iAx A n c ty b _ _ _ _ _) rfl h
  | true=>
   rw[hq,cond_true] at h
   have h':∀g,Post .normal (fill g 0 (MAx n c b ((x::X).length+1) ((i+1:Nat):Int))) (mx A ty (lvals (x::X)++(A.getD i zl).vals) ((x::X).length+1) none):=fun g=>by rw[←oH,←rC (x::X) (A.getD i zl)];exact h g
   have hlo:=bU (x::X)
   obtain⟨q1,q2,q3,q4,q5,q6⟩:=inq (lo:=(x::X).length+1) (by omega) (Nat.le_succ _) hq
   refine Runs.mh 1 ((x::X).length+1) (own:=true) (ty:=30) (s:=64) (vs:=lvals (x::X)) (lo:=(x::X).length) rfl ?_ ?_
   ·exact Runs.au aj mixed (gA A n c ty b _ _ (i:Int) _ (A.getD i zl) g) ⟨decide_eq_true (by omega),by omega,by omega,c1,c2,q1,q2,q3,q4,q5,q6,by omega,by omega,d1,d2,rfl,by rw[Lf.dG];omega,by omega,Nat.le_refl _,dst.oneLv _,hw,trivial⟩ (iAx A n c ty b _ _ _ _ _) rfl h'
   ·exact Runs.aP aj mixed [0,3] (rA A n c ty b _ _ _ (i:Int) _ (A.getD i zl) g) ⟨decide_eq_true (by omega),by omega,by omega,c1,c2,q1,Nat.le_refl _,q3,q4,q5,q6,by omega,by omega,d1,d2,rfl,by rw[Lf.dG];omega,by omega,Nat.le_refl _,iw _ (by omega),hw,trivial⟩ (iAx A n c ty b _ _ _ _ _) rfl h'
theorem pre8 (n c:Nat) (ty:TypeId) (b:Option Addr) (X:List Lf) (g:Nat→SV) {Post:Ex→List SV→List Blk→Prop} (h:∀g,Post .normal (fill g 0 (TC n c b X [] )) (TM A ty X [])):aF Tryd.prog GT 1 A8 (fill g 0 (TB n c b X)) (TX A ty X) Post:=by
 cases X with
 | nil=>exact Runs.au aj mixed (aC A n c ty b g) trivial (iC A n c ty b ) rfl h
 | cons x X=>exact Runs.au aj mixed (aCx A n c ty b _ _ _ _ g) trivial (iCx A n c ty b _ _ _ _ ) rfl h
theorem end8 (n c:Nat) (ty:TypeId) (b:Option Addr) (X:List Lf) (g:Nat→SV) {Post:Ex→List SV→List Blk→Prop} (h:∀g,Post (.exit 2) (fill g 0 (TD X [])) (TM A ty X [])):aF Tryd.prog GT 1 L8 (fill g 0 (TC n c b X [] )) (TM A ty X []) Post:=by
 cases X with
 | nil=>
  exact Runs.au aj mixed (oC A n c ty b g) trivial (iD A ty ) rfl h
 | cons x X=>
  exact Runs.au aj mixed (oCx A n c ty b _ _ _ _ g) trivial (iDx A ty _ _ _ _ ) rfl h
theorem endD (n c:Nat) (ty:TypeId) (b:Option Addr) (X:List Lf) (g:Nat→SV):aF Tryd.prog GT 1 D (fill g 0 (TD X [])) (TM A ty X []) (aH tys fn (Q X [])):=by
 cases X with
 | nil=>
  exact Runs.au aj mixed (fD A ty g) trivial (iR A ty ) rfl fun g=>aH.ret (zz A ty g) rfl
 | cons x X=>
  exact Runs.au aj mixed (fDx A ty _ _ _ _ g) trivial (iRx A ty _ _ _ _ ) rfl fun g=>aH.ret (zzx A ty _ _ _ _ g) ⟨1,rfl,rfl⟩
theorem tail (n c:Nat) (ty:TypeId) (b:Option Addr) (X:List Lf) (hX:X.length≤4000000) (g:Nat→SV):aF Tryd.prog GT 1 (.seq (.seq A8 (.block 2 (.loop L8))) D) (fill g 0 (TB n c b X)) (TX A ty X) (aH tys fn (Q X [])):=by
 refine Runs.seq (Runs.seq (pre8 A n c ty b X g fun g=> ?_))
 refine Runs.block ?_
 refine Runs.dA (fun(_:Unit)=>TC n c b X []) (fun _=>TM A ty X []) (fun _=>True) (fun _=>0) ?_ () trivial g
 rintro _ g _
 refine end8 A n c ty b X g fun g=> ?_
 show aF _ _ _ _ _ _ _
 exact endD A n c ty b X g
theorem run (n c:Nat) (ty:TypeId) (b:Option Addr) (hn:A.length=n) (hm:n≤4000000):aF Tryd.prog GT 1 body (aK fn [.o (.a (.sld 0 0 0 n c)),.o (.a (.v (.slice b 0 0)))]) (m0 A ty ) (aH tys fn (Q (bY A n) [])):=by
 refine Runs.dz aj mixed 2 (s0 A n c ty b ) trivial (i0 A n c ty b ) rfl fun g=> ?_
 rw[suf_2]
 refine Runs.seq (Runs.seq (Runs.au aj mixed (aA A n c ty b g) trivial (iA A n c ty b _) rfl fun g=> ?_))
 refine Runs.block ?_
 refine Runs.dA (fun(i:Nat)=>TA n c b (bY A i) (i:Int)) (fun i=>TX A ty (bY A i)) (fun i=>i≤n) (fun i=>n-i) ?_ 0 (Nat.zero_le _) g
 rintro i g hi
 rcases Nat.lt_or_ge i n with h | h
 ·exact stepA A n c ty b hn hm i h g fun g=>⟨i+1,g,rfl,rfl,h,by omega⟩
 ·rw[show i=n by omega]
  have hle:=pX A n
  generalize bY A n=X at hle ⊢
  cases X with
  | nil=>
   refine Runs.au aj mixed (oA A n c ty b _ g) ⟨decide_eq_false (by omega),trivial⟩ (iB A n c ty b ) rfl fun g=> ?_
   show aF _ _ _ _ _ _ _
   exact tail A n c ty b [] (by omega) g
  | cons x X=>
   refine Runs.au aj mixed (oAx A n c ty b _ _ none _ _ g) ⟨decide_eq_false (by omega),trivial⟩ (iBx A n c ty b _ _ _ _) rfl fun g=> ?_
   show aF _ _ _ _ _ _ _
   exact tail A n c ty b (x::X) (by omega) g
end
end wn
namespace nw
def TC (a:Option Addr) (m d:Nat) (X Y:List Lf) (j:Int):List (Option SV):=match X,Y with
 | [],[]=>MC a m d j
 | [],y::Y=>MCy a m d (y::Y).length j
 | _,_=>[]
def TD (a:Option Addr) (X Y:List Lf):List (Option SV):=match X,Y with
 | [],[]=>MD a
 | [],y::Y=>MDy a (y::Y).length
 | _,_=>[]
def TM (B:List Lf) (ty2:TypeId) (X Y:List Lf):List Blk:=match X,Y with
 | [],[]=>m0 B ty2
 | [],y::Y=>my B ty2 (lvals (y::Y)) (y::Y).length none
 | _,_=>[]
def TB (a:Option Addr) (m d:Nat):List (Option SV):=MB a m d
def TX (B:List Lf) (ty2:TypeId):List Blk:=m0 B ty2
section
variable (a:Option Addr) (B:List Lf)
theorem pre8 (m d:Nat) (ty2:TypeId) (g:Nat→SV) {Post:Ex→List SV→List Blk→Prop} (h:∀g,Post .normal (fill g 0 (TC a m d [] [] 0)) (TM B ty2 [] [])):aF Tryd.prog GT 1 A8 (fill g 0 (TB a m d)) (TX B ty2) Post:=by
 exact Runs.au aj mixed (aC a B m d ty2 g) trivial (iC a B m d ty2 _) rfl h
theorem end8 (m d:Nat) (ty2:TypeId) (Y:List Lf) (j:Int) (hj:¬j<m) (g:Nat→SV) {Post:Ex→List SV→List Blk→Prop} (h:∀g,Post (.exit 2) (fill g 0 (TD a [] Y)) (TM B ty2 [] Y)):aF Tryd.prog GT 1 L8 (fill g 0 (TC a m d [] Y j)) (TM B ty2 [] Y) Post:=by
 cases Y with
 | nil=>
  exact Runs.au aj mixed (oC a B m d ty2 _ g) ⟨decide_eq_false hj,trivial⟩ (iD a B ty2 ) rfl h
 | cons y Y=>
  exact Runs.au aj mixed (oCy a B m d ty2 _ _ _ _ _ g) ⟨decide_eq_false hj,trivial⟩ (iDy a B ty2 _ _ _ _ ) rfl h
theorem endD (m d:Nat) (ty2:TypeId) (Y:List Lf) (g:Nat→SV):aF Tryd.prog GT 1 D (fill g 0 (TD a [] Y)) (TM B ty2 [] Y) (aH tys fn (Q [] Y)):=by
 cases Y with
 | nil=>
  exact Runs.au aj mixed (fD a B ty2 g) trivial (iR a B ty2 ) rfl fun g=>aH.ret (zz a B ty2 g) rfl
 | cons y Y=>
  exact Runs.au aj mixed (fDy a B ty2 _ _ _ _ g) trivial (iRy a B ty2 _ _ _ _ ) rfl fun g=>aH.ret (zzy a B ty2 _ _ _ _ g) ⟨1,rfl,rfl⟩
theorem stepC (m d:Nat) (ty2:TypeId) (hk:B.length=m) (hl:m≤4000000) (Y:List Lf) (i:Nat) (hi:i<m) (hyl:Y.length≤i) (g:Nat→SV) {Post:Ex→List SV→List Blk→Prop} (h:∀g,Post .normal (fill g 0 (TC a m d [] (bif dF ([]:List Lf) (B.getD i zl).lab ([]:List Lf).length&&dF Y (B.getD i zl).lab Y.length then Y++[B.getD i zl] else Y) ((i+1:Nat):Int))) (TM B ty2 [] (bif dF ([]:List Lf) (B.getD i zl).lab ([]:List Lf).length&&dF Y (B.getD i zl).lab Y.length then Y++[B.getD i zl] else Y))):
  aF Tryd.prog GT 1 L8 (fill g 0 (TC a m d [] Y (i:Int))) (TM B ty2 [] Y) Post:=by
 obtain⟨c1,c2⟩:=dst.tu B (show i<B.length by omega)
 obtain⟨d1,d2⟩:=dst.tC B (show i<B.length by omega)
 have hw:IntKind.i64.wrap ((i:Int)+1)=((i+1:Nat):Int):=by rw[IntKind.wrap_i64];omega
 cases Y with
 | nil=>
  have h':∀g,Post .normal (fill g 0 (MCy a m d 1 ((i+1:Nat):Int))) (my B ty2 (B.getD i zl).vals 1 none):=fun g=>by rw[←oh];exact h g
  exact Runs.aP aj mixed [0,2] (zC a B m d ty2 (i:Int) _ (B.getD i zl) g) ⟨decide_eq_true (by omega),by omega,by omega,c1,c2,by omega,by omega,c1,c2,by omega,by omega,d1,d2,rfl,by rw[Lf.dG];omega,by omega,iw 1 (by omega),hw,trivial⟩ (iCy a B m d ty2 _ _ _ _ _) rfl h'
 | cons y Y=>
  show aF Tryd.prog GT 1 L8 (fill g 0 (MCy a m d (y::Y).length (i:Int))) (my B ty2 (lvals (y::Y)) (y::Y).length none) Post
  have h:∀g,Post .normal (fill g 0 (TC a m d [] (bif dF (y::Y) (B.getD i zl).lab (y::Y).length then (y::Y)++[B.getD i zl] else (y::Y)) ((i+1:Nat):Int))) (TM B ty2 [] (bif dF (y::Y) (B.getD i zl).lab (y::Y).length then (y::Y)++[B.getD i zl] else (y::Y))):=h
  cases hr:dF (y::Y) (B.getD i zl).lab (y::Y).length with
  | false=>
   rw[hr,cond_false] at h
   obtain⟨v1,v2,v3,v4,v5,v6⟩:=inq (lo:=(y::Y).length) (by omega) (Nat.le_refl _) hr
   exact Runs.au aj mixed (nyy a B m d ty2 _ _ none _ (i:Int) _ (B.getD i zl) g) ⟨decide_eq_true (by omega),by omega,by omega,c1,c2,by omega,by omega,c1,c2,v1,v2,v3,v4,v5,v6,hw,trivial⟩ (iCy a B m d ty2 _ _ _ _ _) rfl h
  | true=>
   rw[hr,cond_true] at h
   have h':∀g,Post .normal (fill g 0 (MCy a m d ((y::Y).length+1) ((i+1:Nat):Int))) (my B ty2 (lvals (y::Y)++(B.getD i zl).vals) ((y::Y).length+1) none):=fun g=>by rw[←oH,←rC (y::Y) (B.getD i zl)];exact h g
   have hlo:=bU (y::Y)
   obtain⟨v1,v2,v3,v4,v5,v6⟩:=inq (lo:=(y::Y).length+1) (by omega) (Nat.le_succ _) hr
   refine Runs.mh 1 ((y::Y).length+1) (own:=true) (ty:=30) (s:=64) (vs:=lvals (y::Y)) (lo:=(y::Y).length) rfl ?_ ?_
   ·exact Runs.au aj mixed (gCy a B m d ty2 _ _ (i:Int) _ (B.getD i zl) g) ⟨decide_eq_true (by omega),by omega,by omega,c1,c2,by omega,by omega,c1,c2,v1,v2,v3,v4,v5,v6,by omega,by omega,d1,d2,rfl,by rw[Lf.dG];omega,by omega,Nat.le_refl _,dst.oneLv _,hw,trivial⟩ (iCy a B m d ty2 _ _ _ _ _) rfl h'
   ·exact Runs.aP aj mixed [0,3] (rCy a B m d ty2 _ _ _ (i:Int) _ (B.getD i zl) g) ⟨decide_eq_true (by omega),by omega,by omega,c1,c2,by omega,by omega,c1,c2,v1,Nat.le_refl _,v3,v4,v5,v6,by omega,by omega,d1,d2,rfl,by rw[Lf.dG];omega,by omega,Nat.le_refl _,iw _ (by omega),hw,trivial⟩ (iCy a B m d ty2 _ _ _ _ _) rfl h'
theorem tail (m d:Nat) (ty2:TypeId) (hk:B.length=m) (hl:m≤4000000) (g:Nat→SV):aF Tryd.prog GT 1 (.seq (.seq A8 (.block 2 (.loop L8))) D) (fill g 0 (TB a m d)) (TX B ty2) (aH tys fn (Q [] (apB [] B m))):=by
 refine Runs.seq (Runs.seq (pre8 a B m d ty2 g fun g=> ?_))
 refine Runs.block ?_
 refine Runs.dA (fun(i:Nat)=>TC a m d [] (apB [] B i) (i:Int)) (fun i=>TM B ty2 [] (apB [] B i)) (fun i=>i≤m) (fun i=>m-i) ?_ 0 (Nat.zero_le _) g
 rintro i g hi
 rcases Nat.lt_or_ge i m with h | h
 ·exact stepC a B m d ty2 hk hl (apB [] B i) i h (tK _ _ _) g fun g=>⟨i+1,g,rfl,rfl,h,by omega⟩
 ·rw[show i=m by omega]
  refine end8 a B m d ty2 _ _ (by omega) g fun g=> ?_
  show aF _ _ _ _ _ _ _
  exact endD a B m d ty2 _ g
theorem run (m d:Nat) (ty2:TypeId) (hk:B.length=m) (hl:m≤4000000):aF Tryd.prog GT 1 body (aK fn [.o (.a (.v (.slice a 0 0))),.o (.a (.sld 0 0 0 m d))]) (m0 B ty2 ) (aH tys fn (Q [] (apB [] B m))):=by
 refine Runs.dz aj mixed 2 (s0 a B m d ty2 ) trivial (i0 a B m d ty2 ) rfl fun g=> ?_
 rw[suf_2]
 refine Runs.seq (Runs.seq (Runs.au aj mixed (aA a B m d ty2 g) trivial (iA a B m d ty2 ) rfl fun g=> ?_))
 refine Runs.block ?_
 refine Runs.dA (fun(_:Unit)=>MA a m d ) (fun _=>m0 B ty2 ) (fun _=>True) (fun _=>0) ?_ () trivial g
 rintro _ g _
 refine Runs.au aj mixed (oA a B m d ty2 g) trivial (iB a B m d ty2 ) rfl fun g=> ?_
 show aF _ _ _ _ _ _ _
 exact tail a B m d ty2 hk hl g
end
end nw
namespace nn
def TC (a:Option Addr) (b:Option Addr) (X Y:List Lf):List (Option SV):=match X,Y with
 | [],[]=>MC a b
 | _,_=>[]
def TD (a:Option Addr) (X Y:List Lf):List (Option SV):=match X,Y with
 | [],[]=>MD a
 | _,_=>[]
def TM (X Y:List Lf):List Blk:=match X,Y with
 | [],[]=>m0
 | _,_=>[]
def TB (a:Option Addr) (b:Option Addr):List (Option SV):=MB a b
def TX:List Blk:=m0
section
variable (a:Option Addr) (b:Option Addr) (g:Nat→SV) {Post:Ex→List SV→List Blk→Prop}
theorem pre8 (h:∀g,Post .normal (fill g 0 (TC a b [] [] )) (TM [] [])):aF Tryd.prog GT 0 A8 (fill g 0 (TB a b)) (TX) Post:=by
 exact Runs.au aj mixed (aC a b g) trivial (iC a b ) rfl h
theorem end8 (h:∀g,Post (.exit 2) (fill g 0 (TD a [] [])) (TM [] [])):aF Tryd.prog GT 0 L8 (fill g 0 (TC a b [] [] )) (TM [] []) Post:=by
 exact Runs.au aj mixed (oC a b g) trivial (iD a ) rfl h
end
theorem endD (a:Option Addr) (b:Option Addr) (g:Nat→SV):aF Tryd.prog GT 0 D (fill g 0 (TD a [] [])) (TM [] []) (aH tys fn (Q [] [])):=by
 exact Runs.au aj mixed (fD a g) trivial (iR a ) rfl fun g=>aH.ret (zz a g) rfl
theorem tail (a:Option Addr) (b:Option Addr) (g:Nat→SV):aF Tryd.prog GT 0 (.seq (.seq A8 (.block 2 (.loop L8))) D) (fill g 0 (TB a b)) (TX) (aH tys fn (Q [] [])):=by
 refine Runs.seq (Runs.seq (pre8 a b g fun g=> ?_))
 refine Runs.block ?_
 refine Runs.dA (fun(_:Unit)=>TC a b [] []) (fun _=>TM [] []) (fun _=>True) (fun _=>0) ?_ () trivial g
 rintro _ g _
 refine end8 a b g fun g=> ?_
 show aF _ _ _ _ _ _ _
 exact endD a b g
theorem run (a:Option Addr) (b:Option Addr):aF Tryd.prog GT 0 body (aK fn [.o (.a (.v (.slice a 0 0))),.o (.a (.v (.slice b 0 0)))]) (m0 ) (aH tys fn (Q [] [])):=by
 refine Runs.dz aj mixed 2 (s0 a b ) trivial (i0 a b ) rfl fun g=> ?_
 rw[suf_2]
 refine Runs.seq (Runs.seq (Runs.au aj mixed (aA a b g) trivial (iA a b ) rfl fun g=> ?_))
 refine Runs.block ?_
 refine Runs.dA (fun(_:Unit)=>MA a b ) (fun _=>m0 ) (fun _=>True) (fun _=>0) ?_ () trivial g
 rintro _ g _
 refine Runs.au aj mixed (oA a b g) trivial (iB a b ) rfl fun g=> ?_
 show aF _ _ _ _ _ _ _
 exact tail a b g
end nn
end apt
namespace apt
def lists:List aU→Option ((List Lf × Nat) × (List Lf × Nat) × Cst)
 | [.winv _ vs n ty,.winv _ ws m ty2]=>some ((av vs,n),(av ws,m),[vs=lvals (av vs),(av vs).length=n,n≤4000000,ws=lvals (av ws),(av ws).length=m,m≤4000000])
 | [.winv _ vs n ty,.val (.o (.a (.v (.slice b 0 0))))]=>some ((av vs,n),([],0),[vs=lvals (av vs),(av vs).length=n,n≤4000000])
 | [.val (.o (.a (.v (.slice a 0 0)))),.winv _ ws m ty2]=>some (([],0),(av ws,m),[ws=lvals (av ws),(av ws).length=m,m≤4000000])
 | [.val (.o (.a (.v (.slice a 0 0)))),.val (.o (.a (.v (.slice b 0 0))))]=>some (([],0),([],0),[])
 | _=>none
theorem own_all {ps:List aU} {x y:List Lf × Nat} {p:Cst} (h:lists ps=some (x,y,p)):∀b∈bf ps,b.own=false:=fun b hb=>by
 unfold lists at h
 split at h<;>cases h
 ·simp only[bf,aU.blk,List.append_nil,List.nil_append,List.cons_append,List.mem_cons,List.not_mem_nil,or_false] at hb
  rcases hb with rfl | rfl<;>rfl
 ·simp only[bf,aU.blk,List.append_nil,List.nil_append,List.mem_singleton] at hb
  rw[hb]
 ·simp only[bf,aU.blk,List.append_nil,List.nil_append,List.mem_singleton] at hb
  rw[hb]
 ·simp[bf,aU.blk] at hb
theorem run_all {ps:List aU} {x y:List Lf × Nat} {p:Cst} (h:lists ps=some (x,y,p)) (hp:Holds p) (cap:Nat→Nat):
  aF Tryd.prog GT (bf ps).length body (aK fn (om cap 0 ps)) (bf ps) (aH tys fn (Q (bY x.1 x.2) (apB (bY x.1 x.2) y.1 y.2))):=by
 unfold lists at h
 split at h<;>cases h
 ·rename_i s1 vs n ty s2 ws m ty2
  obtain⟨p1,p2,p3,p4,p5,p6,_⟩:=hp
  have q:=ww.run (av vs) n (cap 0) ty (av ws) m (cap 1) ty2 p2 p3 p5 p6
  unfold ww.m0 at q
  rw[←p1,←p4] at q
  exact q
 ·rename_i s1 vs n ty b
  obtain⟨p1,p2,p3,_⟩:=hp
  have q:=wn.run (av vs) n (cap 0) ty b p2 p3
  unfold wn.m0 at q
  rw[←p1] at q
  exact q
 ·rename_i a s2 ws m ty2
  obtain⟨p1,p2,p3,_⟩:=hp
  have q:=nw.run a (av ws) m (cap 0) ty2 p2 p3
  unfold nw.m0 at q
  rw[←p1] at q
  exact q
 ·rename_i a b
  exact nn.run a b
def spec0 (ps:List aU):Option (SV × dH × Cst):=match lists ps with
 | some (x,y,p)=>some (iY [.a (.v (.slice none 0 0)),.a (.v (.slice none 0 0))],.none,(bY x.1 x.2=[])::(apB (bY x.1 x.2) y.1 y.2=[])::p)
 | none=>none
def specX (ps:List aU):Option (SV × dH × Cst):=match lists ps with
 | some (x,y,p)=>some (iY [.a (.slg 0 (bY x.1 x.2).length),.a (.v (.slice none 0 0))],.new 30 (.grv 64 (lvals (bY x.1 x.2)) (bY x.1 x.2).length none),(bY x.1 x.2≠[])::(apB (bY x.1 x.2) y.1 y.2=[])::p)
 | none=>none
def specY (ps:List aU):Option (SV × dH × Cst):=match lists ps with
 | some (x,y,p)=>some (iY [.a (.v (.slice none 0 0)),.a (.slg 0 (apB (bY x.1 x.2) y.1 y.2).length)],.new 30 (.grv 64 (lvals (apB (bY x.1 x.2) y.1 y.2)) (apB (bY x.1 x.2) y.1 y.2).length none),(bY x.1 x.2=[])::(apB (bY x.1 x.2) y.1 y.2≠[])::p)
 | none=>none
noncomputable def con0:Con Tryd.prog GT:=Con.parts aj 50 fn Tryd.func50 (by kernel_rfl) (c:=body) (by kernel_rfl) [.winv 64,.winv 64] spec0
 (fun ps r e p h hp=>by
  unfold spec0 at h
  split at h<;>cases h
  rename_i x y p hl
  exact⟨rfl,own_all hl⟩)
 (fun ps r e p cap h hp hi=>by
  unfold spec0 at h
  split at h<;>cases h
  rename_i x y p hl
  obtain⟨h1,h2,h3⟩:=hp
  have q:=run_all hl h3 cap
  rw[h2,h1] at q
  exact q)
noncomputable def conX:Con Tryd.prog GT:=Con.parts aj 50 fn Tryd.func50 (by kernel_rfl) (c:=body) (by kernel_rfl) [.winv 64,.winv 64] specX
 (fun ps r e p h hp=>by
  unfold specX at h
  split at h<;>cases h
  rename_i x y p hl
  exact⟨rfl,own_all hl⟩)
 (fun ps r e p cap h hp hi=>by
  unfold specX at h
  split at h<;>cases h
  rename_i x y p hl
  obtain⟨h1,h2,h3⟩:=hp
  have q:=run_all hl h3 cap
  rw[h2] at q
  cases hx:bY x.1 x.2 with
  | nil=>exact absurd hx h1
  | cons z X=>
   rw[hx] at q
   exact q)
noncomputable def conY:Con Tryd.prog GT:=Con.parts aj 50 fn Tryd.func50 (by kernel_rfl) (c:=body) (by kernel_rfl) [.winv 64,.winv 64] specY
 (fun ps r e p h hp=>by
  unfold specY at h
  split at h<;>cases h
  rename_i x y p hl
  exact⟨rfl,own_all hl⟩)
 (fun ps r e p cap h hp hi=>by
  unfold specY at h
  split at h<;>cases h
  rename_i x y p hl
  obtain⟨h1,h2,h3⟩:=hp
  have q:=run_all hl h3 cap
  rw[h1] at q h2 ⊢
  cases hy:apB [] y.1 y.2 with
  | nil=>exact absurd hy h2
  | cons z Y=>
   rw[hy] at q
   exact q)
theorem call2 {tm:List SV} {mem:List Blk} {Post:Ex→List SV→List Blk→Prop} {F:Nat} {ops:Array Oper} {l:List Oper} {d:Nat} {args:Array Operand} {ts:Array TypeId} {o:Oper}
  (ho:o.op= .call ⟨.value (.func 50),args,ts⟩) (hds:o.dst=some d) (hgd:o.guard=none) {ps:List aU} {κ:List fG} {c1:Cst} {x y:List Lf × Nat} {p:Cst}
  (hd:decL (fun k=>mem[k]?) [] [.winv 64,.winv 64] (args.toList.map (jm tm))=some (ps,κ,c1)) (hc1:Holds c1) (hap:qG κ (bf ps)=true) (hl:lists ps=some (x,y,p)) (h3:Holds p) (h1:bY x.1 x.2≠[]) (h2:apB (bY x.1 x.2) y.1 y.2≠[])
  (hp:aS Tryd.prog GT F ops l (tm.set d ((iY [.a (.slg 0 (bY x.1 x.2).length),.a (.slg 1 (apB (bY x.1 x.2) y.1 y.2).length)]).ren (fun i=>mem.length+i)))
   (mem++[⟨true,30,.grv 64 (lvals (bY x.1 x.2)) (bY x.1 x.2).length none⟩,⟨true,30,.grv 64 (lvals (apB (bY x.1 x.2) y.1 y.2)) (apB (bY x.1 x.2) y.1 y.2).length none⟩]) Post):
  aS Tryd.prog GT F ops (o::l) tm mem Post:=by
 refine aS.call2 aj ho hds hgd fn Tryd.func50 (by kernel_rfl) (c:=body) (by kernel_rfl) [.winv 64,.winv 64] rfl rfl rfl rfl (fun k hk=> ?_) hd hc1 hap (own_all hl) (fun cap _=> ?_) hp
 ·have hk:k∈[0,1]:=hk
  simp only[List.mem_cons,List.not_mem_nil,or_false] at hk
  omega
 ·have q:=run_all hl h3 cap
  cases hx:bY x.1 x.2 with
  | nil=>exact absurd hx h1
  | cons z X=>
   rw[hx] at q h2
   cases hy:apB (z::X) y.1 y.2 with
   | nil=>exact absurd hy h2
   | cons u Y=>
    rw[hy] at q
    exact q
end apt
end Go.Proofs.YtdccehmekkcheaaDoor
