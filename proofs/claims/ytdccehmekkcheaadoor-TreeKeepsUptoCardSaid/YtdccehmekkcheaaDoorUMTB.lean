/- Packages tree, beaconref11: nodes that are apart: walks, contracts of both sides. -/
import Derived.Test.YtdccehmekkcheaaDoorUTrK
namespace Go.Proofs.YtdccehmekkcheaaDoor
open Go Go.Eng Go.RowKit
set_option linter.unusedVariables false
set_option linter.unusedSimpArgs false
set_option maxRecDepth 100000
namespace tap
noncomputable abbrev fn:=Tryd.f35
noncomputable def body:Code:=bq fn
noncomputable def A1:Code:=cs1 (cs1 (csuf 1 body))
noncomputable def L:Code:=cL (cB (cs2 (cs1 (csuf 1 body))))
noncomputable def D:Code:=cs2 (csuf 1 body)
noncomputable def Γ:Cons Tryd.prog GT:=[tgood.con,bcmp.con,tcom.con]
theorem bG:csuf 1 body= .seq (.seq A1 (.block 0 (.loop L))) D:=by kernel_rfl
def M0 (l:List Nd) (n c:Nat) (ty:TypeId):List (Option SV):=aF 43 0 [(0,.o (.a (.sld 0 0 0 n c)))]
def M1 (l:List Nd) (n c:Nat) (ty:TypeId) (j:Int):List (Option SV):=aF 43 0 [(0,.o (.a (.sld 0 0 0 n c))),(6,.o (.a (.sld 0 0 0 n c))),(7,.o (.a (int1 .i64 n))),(8,.o (.a (int1 .i64 j)))]
def MZ (l:List Nd) (n c:Nat) (ty:TypeId) (r:Bool):List (Option SV):=aF 43 0 [(2,.o (.a (bool1 r)))]
section
variable (l:List Nd)
def mem (n c:Nat) (ty:TypeId):List Blk:=[⟨false,ty,.prv (ah l)⟩]
theorem ids0 (n c:Nat) (ty:TypeId):aD (mem l n c ty ).length (M0 l n c ty ) (mem l n c ty )=true:=by kernel_rfl
theorem ids1 (n c:Nat) (ty:TypeId) (j:Int):aD (mem l n c ty ).length (M1 l n c ty j) (mem l n c ty )=true:=by kernel_rfl
theorem idsZ (n c:Nat) (ty:TypeId) (r:Bool):aD (mem l n c ty ).length (MZ l n c ty r) (mem l n c ty )=true:=by kernel_rfl
theorem s0 (n c:Nat) (ty:TypeId):outX (mem l n c ty ).length (M0 l n c ty ) (exec Γ tys 300 (cpre 1 body) ⟨aH fn [.o (.a (.sld 0 0 0 n c))],mem l n c ty ,[]⟩)=some (.normal,live (M0 l n c ty ),(M0 l n c ty ).length,mem l n c ty ,[]):=by kernel_rfl
theorem a1 (n c:Nat) (ty:TypeId) (g:Nat→SV):outX (mem l n c ty ).length (M1 l n c ty 0) (exec Γ tys 300 A1 ⟨fill g 0 (M0 l n c ty ),mem l n c ty ,[]⟩)=some (.normal,live (M1 l n c ty 0),(M1 l n c ty 0).length,mem l n c ty ,[]):=by kernel_rfl
theorem bad (n c:Nat) (ty:TypeId) (j:Int) (x:Nd) (g:Nat→SV):outX (mem l n c ty ).length (MZ l n c ty false) (exec Γ tys 300 L ⟨fill g 0 (M1 l n c ty j),mem l n c ty ,[(9,[.b true]),(12,[.ds (cNd.enc x)]),(14,[.s (aI.enc false)])]⟩)=some (.ret,live (MZ l n c ty false),(MZ l n c ty false).length,mem l n c ty ,[decide ((j:Int)<n)=true,0≤j,j<n,(0+offI 0 j 65)+65≤(ah l).length,SV.o (.g (aZ (ah l) (0+offI 0 j 65) 65))=cNd.enc x,BOk x.pre,aI.enc (goodV x)=aI.enc false]):=by kernel_rfl
theorem stp0 (n c:Nat) (ty:TypeId) (x:Nd) (g:Nat→SV):outX (mem l n c ty ).length (M1 l n c ty 1) (exec Γ tys 300 L ⟨fill g 0 (M1 l n c ty 0),mem l n c ty ,[(9,[.b true]),(12,[.ds (cNd.enc x)]),(14,[.s (aI.enc true)])]⟩)=some (.normal,live (M1 l n c ty 1),(M1 l n c ty 1).length,mem l n c ty ,[decide ((0:Int)<n)=true,0≤(0:Int),(0:Int)<n,(0+offI 0 (0:Int) 65)+65≤(ah l).length,SV.o (.g (aZ (ah l) (0+offI 0 (0:Int) 65) 65))=cNd.enc x,BOk x.pre,aI.enc (goodV x)=aI.enc true]):=by kernel_rfl
theorem lo (n c:Nat) (ty:TypeId) (j i q:Int) (x y:Nd) (g:Nat→SV):outX (mem l n c ty ).length (MZ l n c ty false) (exec Γ tys 300 L ⟨fill g 0 (M1 l n c ty j),mem l n c ty ,[(9,[.b true]),(12,[.ds (cNd.enc x)]),(14,[.s (aI.enc true)]),(17,[.b true]),(20,[.n i]),(22,[.ds (cNd.enc y)]),(27,[.s (.o (.a (int1 .i64 q)))]),(28,[.b true])]⟩)=some (.ret,live (MZ l n c ty false),(MZ l n c ty false).length,mem l n c ty ,[decide ((j:Int)<n)=true,0≤j,j<n,(0+offI 0 j 65)+65≤(ah l).length,SV.o (.g (aZ (ah l) (0+offI 0 j 65) 65))=cNd.enc x,BOk x.pre,aI.enc (goodV x)=aI.enc true,decide (j>0)=true,IntKind.i64.wrap (j-1)=i,0≤i,i<n,(0+offI 0 i 65)+65≤(ah l).length,SV.o (.g (aZ (ah l) (0+offI 0 i 65) 65))=cNd.enc y,0+32≤64,32≤32,0+32≤64,32≤32,(cInt .i64).enc (cmpI (y.pre.to) (x.pre.to))=(cInt .i64).enc q,decide (q≥0)=true]):=by kernel_rfl
theorem cl (n c:Nat) (ty:TypeId) (j i q d:Int) (x y:Nd) (g:Nat→SV):outX (mem l n c ty ).length (MZ l n c ty false) (exec Γ tys 300 L ⟨fill g 0 (M1 l n c ty j),mem l n c ty ,[(9,[.b true]),(12,[.ds (cNd.enc x)]),(14,[.s (aI.enc true)]),(17,[.b true]),(20,[.n i]),(22,[.ds (cNd.enc y)]),(27,[.s (.o (.a (int1 .i64 q)))]),(28,[.b false]),(34,[.s (.o (.a (int1 .i64 d)))]),(40,[.b true])]⟩)=some (.ret,live (MZ l n c ty false),(MZ l n c ty false).length,mem l n c ty ,[decide ((j:Int)<n)=true,0≤j,j<n,(0+offI 0 j 65)+65≤(ah l).length,SV.o (.g (aZ (ah l) (0+offI 0 j 65) 65))=cNd.enc x,BOk x.pre,aI.enc (goodV x)=aI.enc true,decide (j>0)=true,IntKind.i64.wrap (j-1)=i,0≤i,i<n,(0+offI 0 i 65)+65≤(ah l).length,SV.o (.g (aZ (ah l) (0+offI 0 i 65) 65))=cNd.enc y,0+32≤64,32≤32,0+32≤64,32≤32,(cInt .i64).enc (cmpI (y.pre.to) (x.pre.to))=(cInt .i64).enc q,decide (q≥0)=false,BOk y.pre,BOk x.pre,(cInt .i64).enc (comV y.pre x.pre:Nat)=(cInt .i64).enc d,decide (d≥(if x.len<y.len then x.len else y.len))=true]):=by kernel_rfl
theorem stp (n c:Nat) (ty:TypeId) (j i q d j':Int) (x y:Nd) (g:Nat→SV):outX (mem l n c ty ).length (M1 l n c ty j') (exec Γ tys 300 L ⟨fill g 0 (M1 l n c ty j),mem l n c ty ,[(9,[.b true]),(12,[.ds (cNd.enc x)]),(14,[.s (aI.enc true)]),(17,[.b true]),(20,[.n i]),(22,[.ds (cNd.enc y)]),(27,[.s (.o (.a (int1 .i64 q)))]),(28,[.b false]),(34,[.s (.o (.a (int1 .i64 d)))]),(40,[.b false]),(42,[.n j'])]⟩)=some (.normal,live (M1 l n c ty j'),(M1 l n c ty j').length,mem l n c ty ,[decide ((j:Int)<n)=true,0≤j,j<n,(0+offI 0 j 65)+65≤(ah l).length,SV.o (.g (aZ (ah l) (0+offI 0 j 65) 65))=cNd.enc x,BOk x.pre,aI.enc (goodV x)=aI.enc true,decide (j>0)=true,IntKind.i64.wrap (j-1)=i,0≤i,i<n,(0+offI 0 i 65)+65≤(ah l).length,SV.o (.g (aZ (ah l) (0+offI 0 i 65) 65))=cNd.enc y,0+32≤64,32≤32,0+32≤64,32≤32,(cInt .i64).enc (cmpI (y.pre.to) (x.pre.to))=(cInt .i64).enc q,decide (q≥0)=false,BOk y.pre,BOk x.pre,(cInt .i64).enc (comV y.pre x.pre:Nat)=(cInt .i64).enc d,decide (d≥(if x.len<y.len then x.len else y.len))=false,IntKind.i64.wrap (j+1)=j']):=by kernel_rfl
theorem out (n c:Nat) (ty:TypeId) (j:Int) (g:Nat→SV):outX (mem l n c ty ).length (M0 l n c ty ) (exec Γ tys 300 L ⟨fill g 0 (M1 l n c ty j),mem l n c ty ,[(9,[.b false])]⟩)=some ((.exit 0),live (M0 l n c ty ),(M0 l n c ty ).length,mem l n c ty ,[decide (j<n)=false]):=by kernel_rfl
theorem fin (n c:Nat) (ty:TypeId) (g:Nat→SV):outX (mem l n c ty ).length (MZ l n c ty true) (exec Γ tys 300 D ⟨fill g 0 (M0 l n c ty ),mem l n c ty ,[]⟩)=some (.ret,live (MZ l n c ty true),(MZ l n c ty true).length,mem l n c ty ,[]):=by kernel_rfl
theorem zr (n c:Nat) (ty:TypeId) (r:Bool) (g:Nat→SV):eRes tys (fill g 0 (MZ l n c ty r)) (fun k=>(mem l n c ty )[k]?) fn.results.toList=some [.a (bool1 r)]:=by kernel_rfl
end
end tap
end Go.Proofs.YtdccehmekkcheaaDoor
namespace Go.Proofs.YtdccehmekkcheaaDoor
open Go Go.Eng Go.RowKit
set_option linter.unusedVariables false
set_option linter.unusedSimpArgs false
set_option maxRecDepth 100000
theorem apN_false {l:List Nd} {i:Nat} (h:apN l i=false):∀n,i≤n→apN l n=false
 | 0,hi=>by
        obtain rfl:i=0:=by omega
        exact h
 | 1,hi=>by
  rcases Nat.lt_or_ge i 1 with h1 | h1
  ·obtain rfl:i=0:=by omega
   simp[apN] at h
  ·obtain rfl:i=1:=by omega
   exact h
 | n+2,hi=>by
  rcases Nat.lt_or_ge i (n+2) with h1 | h1
  ·rw[apN,apN_false h (n+1) (by omega),Bool.false_and]
  ·obtain rfl:i=n+2:=by omega
   exact h
def aL (l:List Nd):Prop:=∀x∈l,NOk x
theorem aL.at {l:List Nd} (h:aL l) {i:Nat} (hi:i<l.length):NOk (l.getD i zn):=h _ (bN hi _)
def aQ:Nat:=4611686018427387904
theorem endsM_mono {T:Ty} {fn:Func} {Q Q':SV→List Blk→Prop} (h:∀r m,Q r m→Q' r m) {e:Ex} {t:List SV} {m:List Blk}:aG T fn Q e t m→aG T fn Q' e t m:=fun⟨a,l,b,c⟩=>⟨a,l,b,h _ _ c⟩
def runOutM {G:Glob} {P:Program} (Γ:Cons P G) (T:Ty) (fn:Func) (n:Nat) (blks:List Blk) (args:List SV) (orc:Orc):Option (SV × Cst):=
 match runFn Γ T fn n blks args orc with
 | some (r,_,cs)=>some (r,cs)
 | none=>none
theorem runs_of_out {G:Glob} {P:Program} {Γ:Cons P G} {T:Ty} (hT:T.ok P) (hm:P.follows .mixedOrders=true) {fn:Func} {c:Code} (hb:fn.body=some c) {n F:Nat} {orc:Orc} {args:List SV} {blks:List Blk} {r:SV} {cs:Cst}
  (h:runOutM Γ T fn n blks args orc=some (r,cs)) (hc:Holds cs):aC P G F c (aH fn args) blks (aG T fn (aS r .none)):=by
 unfold runOutM at h
 split at h<;>try cases h
 rename_i h
 unfold runFn at h
 rw[hb] at h
 simp only at h
 split at h<;>try cases h
 ·rename_i s cs2 he
  split at h<;>cases h
  rename_i l hl
  exact Runs.bL hT hm (tm':=s.tm) (mem':=s.mem) (orc':=s.orc) he hc (aG.fall hl rfl)
 ·rename_i s cs2 he
  split at h<;>cases h
  rename_i l hl
  exact Runs.bL hT hm (tm':=s.tm) (mem':=s.mem) (orc':=s.orc) he hc (aG.ret hl rfl)
theorem runs_of_out1 {G:Glob} {P:Program} {Γ:Cons P G} {T:Ty} (hT:T.ok P) (hm:P.follows .mixedOrders=true) {fn:Func} {c:Code} (hb:fn.body=some c) {n F:Nat} {orc:Orc} {args:List SV} {r:SV} {cs:Cst}
  (h:runOut Γ T fn n args orc=some (r,cs)) (hc:Holds cs):aC P G F c (aH fn args) [] (aG T fn (aS r .none)):=runs_of_out hT hm hb (blks:=[]) h hc
namespace tap
theorem nil (a:Option Addr):runOut Γ tys fn 100 [.o (.a (.v (.slice a 0 0)))] []=some (aI.enc true,[]):=by kernel_rfl
theorem run (l:List Nd) (n c:Nat) (ty:TypeId) (hn:l.length=n) (hm:n<aQ) (hok:aL l):aC Tryd.prog GT 1 body (aH fn [.o (.a (.sld 0 0 0 n c))]) [⟨false,ty,.prv (ah l)⟩] (aG tys fn (aS (aI.enc (aP l)) .none)):=by
 unfold aQ at hm
 have hl:(ah l).length=n*65:=by rw[←hn];exact aR l
 have hfalse:∀j,j<n→apN l (j+1)=false→aP l=false:=fun j hj h=>apN_false h _ (by omega)
 have ldx:∀j,j<n→0≤(j:Int)∧(j:Int)<n∧0+offI 0 (j:Int) 65+65≤(ah l).length∧SV.o (.g (aZ (ah l) (0+offI 0 (j:Int) 65) 65))=cNd.enc (l.getD j zn):=fun j hj=>by
  have hb:j*65+65≤n*65:=by have:=Nat.mul_le_mul_right 65 (show j+1≤n by omega);omega
  refine⟨by omega,by omega,by rw[offs,hl];omega,by rw[offs];exact ld_nd l (by omega)⟩
 refine Runs.bD aj mixed 1 (s0 l n c ty) trivial (ids0 l n c ty) rfl fun g=> ?_
 rw[bG]
 refine Runs.seq (Runs.seq (Runs.au aj mixed (a1 l n c ty g) trivial (ids1 l n c ty 0) rfl fun g=> ?_))
 refine Runs.block ?_
 refine Runs.bC (fun(j:Nat)=>M1 l n c ty (j:Int)) (fun _=>mem l n c ty) (fun j=>j≤n∧apN l j=true) (fun j=>n-j) ?_ 0 ⟨Nat.zero_le _,rfl⟩ g
 rintro j g ⟨hj,ha⟩
 by_cases hjn:j=n
 ·refine Runs.au aj mixed (out l n c ty _ g) ⟨decide_eq_false (by omega),trivial⟩ (ids0 l n c ty) rfl fun g=> ?_
  show aC _ _ _ _ _ _ _
  refine Runs.au aj mixed (fin l n c ty g) trivial (idsZ l n c ty _) rfl fun g=>aG.ret (zr l n c ty _ g) ?_
  have:aP l=true:=by unfold aP;rw[hn,←hjn];exact ha
  rw[this]
  rfl
 ·obtain⟨x1,x2,x3,x4⟩:=ldx j (by omega)
  have okx:=hok.at (show j<l.length by omega)
  cases hg:goodV (l.getD j zn) with
  | false=>
   have hf:aP l=false:=hfalse j (by omega) (by
    cases j with
    | zero=>rw[apN];exact hg
    | succ j=>rw[apN,hg,Bool.false_and,Bool.and_false])
   refine Runs.au aj mixed (bad l n c ty _ _ g) ⟨decide_eq_true (by omega),x1,x2,x3,x4,okx.1,by rw[hg],trivial⟩ (idsZ l n c ty _) rfl fun g=>aG.ret (zr l n c ty _ g) ?_
   rw[hf]
   rfl
  | true=>
   cases j with
   | zero=>
    refine Runs.au aj mixed (stp0 l n c ty _ g) ⟨decide_eq_true x2,x1,x2,x3,x4,okx.1,by rw[hg],trivial⟩ (ids1 l n c ty _) rfl fun g=> ?_
    exact⟨1,g,rfl,rfl,⟨by omega,by rw[apN];exact hg⟩,by omega⟩
   | succ i=>
    obtain⟨y1,y2,y3,y4⟩:=ldx i (by omega)
    have oky:=hok.at (show i<l.length by omega)
    have hi:IntKind.i64.wrap (((i+1:Nat):Int)-1)=(i:Int):=by rw[IntKind.wrap_i64];omega
    have ap2:apN l (i+2)=(goodV (l.getD (i+1) zn)&&nextV (l.getD i zn) (l.getD (i+1) zn)):=by rw[apN,ha,Bool.true_and]
    cases hlt:ltV (l.getD i zn).pre (l.getD (i+1) zn).pre with
    | false=>
     have hf:aP l=false:=hfalse (i+1) (by omega) (by rw[ap2];unfold nextV;rw[hlt,Bool.false_and,Bool.and_false])
     have hq:¬cmpV (l.getD i zn).pre (l.getD (i+1) zn).pre<0:=fun h=>by rw[(cmpV_neg oky.1 okx.1).1 h] at hlt;cases hlt
     refine Runs.au aj mixed (lo l n c ty _ _ (cmpV (l.getD i zn).pre (l.getD (i+1) zn).pre) _ _ g) ⟨decide_eq_true (by omega),x1,x2,x3,x4,okx.1,by rw[hg],decide_eq_true (by omega),hi,y1,y2,y3,y4,by omega,by omega,by omega,by omega,rfl,decide_eq_true (by omega),trivial⟩ (idsZ l n c ty _) rfl fun g=>aG.ret (zr l n c ty _ g) ?_
     rw[hf]
     rfl
    | true=>
     have hq:=(cmpV_neg oky.1 okx.1).2 hlt
     cases hc:decide (((comV (l.getD i zn).pre (l.getD (i+1) zn).pre:Nat):Int)≥if (l.getD (i+1) zn).len<(l.getD i zn).len then (l.getD (i+1) zn).len else (l.getD i zn).len) with
     | true=>
      have hf:aP l=false:=hfalse (i+1) (by omega) (by
       rw[ap2];unfold nextV
       rw[decide_eq_true_eq] at hc
       rw[decide_eq_false (by omega),Bool.and_false,Bool.and_false])
      refine Runs.au aj mixed (cl l n c ty _ _ (cmpV (l.getD i zn).pre (l.getD (i+1) zn).pre) _ _ _ g) ⟨decide_eq_true (by omega),x1,x2,x3,x4,okx.1,by rw[hg],decide_eq_true (by omega),hi,y1,y2,y3,y4,by omega,by omega,by omega,by omega,rfl,decide_eq_false (by omega),oky.1,okx.1,rfl,hc,trivial⟩ (idsZ l n c ty _) rfl fun g=>aG.ret (zr l n c ty _ g) ?_
      rw[hf]
      rfl
     | false=>
      refine Runs.au aj mixed (stp l n c ty _ _ (cmpV (l.getD i zn).pre (l.getD (i+1) zn).pre) _ ((i+2:Nat):Int) _ _ g) ⟨decide_eq_true (by omega),x1,x2,x3,x4,okx.1,by rw[hg],decide_eq_true (by omega),hi,y1,y2,y3,y4,by omega,by omega,by omega,by omega,rfl,decide_eq_false (by omega),oky.1,okx.1,rfl,hc,by rw[IntKind.wrap_i64];omega,trivial⟩ (ids1 l n c ty _) rfl fun g=> ?_
      refine⟨i+2,g,rfl,rfl,⟨by omega,?_⟩,by omega⟩
      rw[ap2,hg];unfold nextV
      rw[decide_eq_false_iff_not] at hc
      rw[hlt,decide_eq_true (by omega)]
      rfl
def spec:List PArg→Option (SV × LEff × Cst)
 | [.winv _ vs n ty]=>some (aI.enc (aP (ak vs)),.none,[vs=ah (ak vs),(ak vs).length=n,n<aQ,aL (ak vs)])
 | [.val (.o (.a (.v (.slice a 0 0))))]=>some (aI.enc true,.none,[])
 | _=>none
noncomputable def con:Con Tryd.prog GT:=Con.parts aj 35 fn Tryd.func35 (by kernel_rfl) (c:=body) (by kernel_rfl) [.winv 65] spec
 (fun ps r e p h hp=>by
  unfold spec at h
  split at h<;>cases h
  ·exact⟨rfl,fun b hb=>by simp only[aN,PArg.blk,List.append_nil,List.nil_append,List.mem_singleton] at hb;rw[hb]⟩
  ·exact⟨rfl,fun b hb=>by simp[aN,PArg.blk] at hb⟩)
 (fun ps r e p cap h hp hi=>by
  unfold spec at h
  split at h<;>cases h
  ·rename_i s vs n ty
   obtain⟨p1,p2,p3,p4,_⟩:=hp
   have q:=run (ak vs) n (cap 0) ty p2 p3 p4
   rw[←p1] at q
   exact q
  ·exact runs_of_out1 aj mixed (by kernel_rfl) (nil _) trivial)
end tap
end Go.Proofs.YtdccehmekkcheaaDoor
namespace Go.Proofs.YtdccehmekkcheaaDoor
open Go Go.Eng Go.RowKit
set_option linter.unusedVariables false
set_option linter.unusedSimpArgs false
set_option maxRecDepth 100000
structure MonoB (l:List Nd) (v k:Nat):Prop where
 le:k≤l.length
 no:∀i,i<k→bitV (l.getD i zn).pre v=false
 yes:∀i,k≤i→i<l.length→bitV (l.getD i zn).pre v=true
def cloSpec (i:Int) (x:CloA):Option (SV × Cst):=some (aI.enc (bitV ((ak x.ys).getD i.toNat zn).pre x.v.toNat),[x.ys=ah (ak x.ys),(ak x.ys).length=x.n,0≤i,i<x.n,0≤x.v,x.v<256,aL (ak x.ys)])
def seaSpec (N:Int) (x:CloA):Option (SV × Cst):=some ((cInt .i64).enc (splK (ak x.ys) x.v.toNat:Nat),[x.ys=ah (ak x.ys),(ak x.ys).length=x.n,N=x.n,x.n<aQ,0≤x.v,x.v<256,aL (ak x.ys),MonoB (ak x.ys) x.v.toNat (splK (ak x.ys) x.v.toNat)])
namespace clo
noncomputable abbrev fn:=Tryd.f92
noncomputable def body:Code:=bq fn
noncomputable def Γ:Cons Tryd.prog GT:=[tbit.con]
def M (l:List Nd) (n c:Nat) (v:Int) (t0 t1 ty:TypeId) (r:Bool):List (Option SV):=aF 12 0 [(4,.o (.a (bool1 r)))]
section
variable (l:List Nd) (n c:Nat) (v:Int) (t0 t1 ty:TypeId)
def mem:List Blk:=cloB ⟨ah l,n,c,v⟩ t0 t1 ty
theorem ids (r:Bool):aD (mem l n c v t0 t1 ty ).length (M l n c v t0 t1 ty r) (mem l n c v t0 t1 ty )=true:=by kernel_rfl
theorem s (i:Int) (x:B32) (r:Bool):outX (mem l n c v t0 t1 ty ).length (M l n c v t0 t1 ty r) (exec Γ tys 300 body ⟨aH fn [.o (.a (int1 .i64 i)),.o (.a (.ptr 0 0)),.o (.a (.ptr 1 0))],mem l n c v t0 t1 ty ,[(9,[.ds (cB32.enc x)]),(11,[.s (aI.enc r)])]⟩)=some (.ret,live (M l n c v t0 t1 ty r),(M l n c v t0 t1 ty r).length,mem l n c v t0 t1 ty ,[0≤i,i<n,0+(offI 0 i 65+1)+32≤(ah l).length,SV.o (.g (aZ (ah l) (0+(offI 0 i 65+1)) 32))=cB32.enc x,0≤v,v<256,BOk x,aI.enc (bitV x v.toNat)=aI.enc r]):=by kernel_rfl
theorem zr (r:Bool) (g:Nat→SV):eRes tys (fill g 0 (M l n c v t0 t1 ty r)) (fun k=>(mem l n c v t0 t1 ty )[k]?) fn.results.toList=some [.a (bool1 r)]:=by kernel_rfl
end
theorem run (l:List Nd) (n c:Nat) (v i:Int) (t0 t1 ty:TypeId) (hn:l.length=n) (h0:0≤i) (h1:i<n) (v0:0≤v) (v1:v<256) (hok:aL l):
  aC Tryd.prog GT 3 body (aH fn [.o (.a (int1 .i64 i)),.o (.a (.ptr 0 0)),.o (.a (.ptr 1 0))]) (mem l n c v t0 t1 ty) (aG tys fn (aS (aI.enc (bitV (l.getD i.toNat zn).pre v.toNat)) .none)):=by
 obtain⟨k,rfl⟩:=Int.eq_ofNat_of_zero_le h0
 have hk:k<l.length:=by omega
 have hl:(ah l).length=n*65:=by rw[←hn];exact aR l
 have hb:k*65+65≤n*65:=by have:=Nat.mul_le_mul_right 65 (show k+1≤n by omega);omega
 have ho:0+(offI 0 (k:Int) 65+1)=k*65+1:=by rw[offI_eq];simp
 have okx:=hok.at hk
 exact Runs.au aj mixed (s l n c v t0 t1 ty k (l.getD k zn).pre _) ⟨h0,h1,by rw[ho,hl];omega,by rw[ho];exact ld_pre l hk,v0,v1,okx.1,rfl,trivial⟩ (ids _ _ _ _ _ _ _ _) rfl fun g=>aG.ret (zr _ _ _ _ _ _ _ _ g) rfl
noncomputable def con:Con Tryd.prog GT:=Con.clo aj 92 fn Tryd.func92 (by kernel_rfl) (c:=body) (by kernel_rfl) 65 CloP.lit cloSpec (fun a x r p h=>by cases h;rfl)
 (fun a x t0 t1 ty r p h hp hl=>by
  cases h
  obtain⟨p1,p2,p3,p4,p5,p6,p7,_⟩:=hp
  obtain⟨ys,n,c,v⟩:=x
  simp only at p1 p2 p3 p4 p5 p6 p7
  have q:=run (ak ys) n c v a t0 t1 ty p2 p3 p4 p5 p6 p7
  unfold mem at q
  rw[←p1] at q
  exact q)
end clo
namespace sea
noncomputable abbrev fn:=Tryd.f91
noncomputable def body:Code:=bq fn
noncomputable def D:Code:=cs2 (csuf 2 body)
noncomputable def Γ:Cons Tryd.prog GT:=[clo.con]
theorem bG:csuf 2 body= .seq (.block 0 (.loop (cL (cB (cs1 (csuf 2 body)))))) D:=by kernel_rfl
noncomputable def LB:Code:=cL (cB (cs1 (csuf 2 body)))
def M (l:List Nd) (n c:Nat) (v:Int) (t0 t1 ty:TypeId) (i j:Int):List (Option SV):=aF 26 0 [(1,.o (.a (.fn 92 [(0,0),(1,0)]))),(5,.o (.a (int1 .i64 i))),(6,.o (.a (int1 .i64 j)))]
def MZ (l:List Nd) (n c:Nat) (v:Int) (t0 t1 ty:TypeId) (r:Int):List (Option SV):=aF 26 0 [(4,.o (.a (int1 .i64 r)))]
section
variable (l:List Nd) (n c:Nat) (v:Int) (t0 t1 ty:TypeId)
def mem:List Blk:=cloB ⟨ah l,n,c,v⟩ t0 t1 ty
theorem ids (i j:Int):aD (mem l n c v t0 t1 ty ).length (M l n c v t0 t1 ty i j) (mem l n c v t0 t1 ty )=true:=by kernel_rfl
theorem idsZ (r:Int):aD (mem l n c v t0 t1 ty ).length (MZ l n c v t0 t1 ty r) (mem l n c v t0 t1 ty )=true:=by kernel_rfl
theorem s0 (N:Int):outX (mem l n c v t0 t1 ty ).length (M l n c v t0 t1 ty 0 N) (exec Γ tys 300 (cpre 2 body) ⟨aH fn [.o (.a (int1 .i64 N)),.o (.a (.fn 92 [(0,0),(1,0)]))],mem l n c v t0 t1 ty ,[]⟩)=some (.normal,live (M l n c v t0 t1 ty 0 N),(M l n c v t0 t1 ty 0 N).length,mem l n c v t0 t1 ty ,[]):=by kernel_rfl
theorem lo (i j s h h':Int) (g:Nat→SV):outX (mem l n c v t0 t1 ty ).length (M l n c v t0 t1 ty h' j) (exec Γ tys 300 LB ⟨fill g 0 (M l n c v t0 t1 ty i j),mem l n c v t0 t1 ty ,[(11,[.b true]),(14,[.n s]),(15,[.n s]),(16,[.n h]),(17,[.n h]),(20,[.s (aI.enc false)]),(23,[.n h'])]⟩)=some (.normal,live (M l n c v t0 t1 ty h' j),(M l n c v t0 t1 ty h' j).length,mem l n c v t0 t1 ty ,[decide (i<j)=true,IntKind.i64.wrap (i+j)=s,IntKind.u64.wrap s=s,s.fdiv (2^1)=h,IntKind.i64.wrap h=h,0+0+n*65≤(ah l).length,((ah l).drop (0+0)).take (n*65)=ah (ak (((ah l).drop (0+0)).take (n*65))),(ak (((ah l).drop (0+0)).take (n*65))).length=n,0≤h,h<n,0≤v,v<256,aL (ak (((ah l).drop (0+0)).take (n*65))),aI.enc (bitV ((ak (((ah l).drop (0+0)).take (n*65))).getD h.toNat zn).pre v.toNat)=aI.enc false,IntKind.i64.wrap (h+1)=h']):=by kernel_rfl
theorem hi (i j s h:Int) (g:Nat→SV):outX (mem l n c v t0 t1 ty ).length (M l n c v t0 t1 ty i h) (exec Γ tys 300 LB ⟨fill g 0 (M l n c v t0 t1 ty i j),mem l n c v t0 t1 ty ,[(11,[.b true]),(14,[.n s]),(15,[.n s]),(16,[.n h]),(17,[.n h]),(20,[.s (aI.enc true)])]⟩)=some (.normal,live (M l n c v t0 t1 ty i h),(M l n c v t0 t1 ty i h).length,mem l n c v t0 t1 ty ,[decide (i<j)=true,IntKind.i64.wrap (i+j)=s,IntKind.u64.wrap s=s,s.fdiv (2^1)=h,IntKind.i64.wrap h=h,0+0+n*65≤(ah l).length,((ah l).drop (0+0)).take (n*65)=ah (ak (((ah l).drop (0+0)).take (n*65))),(ak (((ah l).drop (0+0)).take (n*65))).length=n,0≤h,h<n,0≤v,v<256,aL (ak (((ah l).drop (0+0)).take (n*65))),aI.enc (bitV ((ak (((ah l).drop (0+0)).take (n*65))).getD h.toNat zn).pre v.toNat)=aI.enc true]):=by kernel_rfl
theorem out (i j:Int) (g:Nat→SV):outX (mem l n c v t0 t1 ty ).length (M l n c v t0 t1 ty i j) (exec Γ tys 300 LB ⟨fill g 0 (M l n c v t0 t1 ty i j),mem l n c v t0 t1 ty ,[(11,[.b false])]⟩)=some ((.exit 0),live (M l n c v t0 t1 ty i j),(M l n c v t0 t1 ty i j).length,mem l n c v t0 t1 ty ,[decide (i<j)=false]):=by kernel_rfl
theorem fin (i j:Int) (g:Nat→SV):outX (mem l n c v t0 t1 ty ).length (MZ l n c v t0 t1 ty i) (exec Γ tys 300 D ⟨fill g 0 (M l n c v t0 t1 ty i j),mem l n c v t0 t1 ty ,[]⟩)=some (.ret,live (MZ l n c v t0 t1 ty i),(MZ l n c v t0 t1 ty i).length,mem l n c v t0 t1 ty ,[]):=by kernel_rfl
theorem zr (r:Int) (g:Nat→SV):eRes tys (fill g 0 (MZ l n c v t0 t1 ty r)) (fun k=>(mem l n c v t0 t1 ty )[k]?) fn.results.toList=some [.a (int1 .i64 r)]:=by kernel_rfl
end
end sea
end Go.Proofs.YtdccehmekkcheaaDoor
namespace Go.Proofs.YtdccehmekkcheaaDoor
open Go Go.Eng Go.RowKit
set_option linter.unusedVariables false
set_option linter.unusedSimpArgs false
set_option maxRecDepth 100000
theorem dtn {l:List Nd} {n:Nat} (h:l.length=n):((ah l).drop (0+0)).take (n*65)=ah l:=by
 rw[Nat.add_zero,List.drop_zero,List.take_of_length_le (by rw[aR,h];omega)]
namespace sea
theorem run (l:List Nd) (n c k:Nat) (v:Int) (t0 t1 ty:TypeId) (hn:l.length=n) (hm:n<aQ) (v0:0≤v) (v1:v<256) (hok:aL l) (hk:MonoB l v.toNat k):
  aC Tryd.prog GT 3 body (aH fn [.o (.a (int1 .i64 (n:Int))),.o (.a (.fn 92 [(0,0),(1,0)]))]) (mem l n c v t0 t1 ty) (aG tys fn (aS ((cInt .i64).enc (k:Nat)) .none)):=by
 unfold aQ at hm
 have hl:(ah l).length=n*65:=by rw[←hn];exact aR l
 have hY:=dtn hn
 have hk1:=hk.le
 refine Runs.bD aj mixed 2 (s0 l n c v t0 t1 ty n) trivial (ids _ _ _ _ _ _ _ _ _) rfl fun g=> ?_
 rw[bG]
 refine Runs.seq (Runs.block ?_)
 refine Runs.bC (fun(x:Nat × Nat)=>M l n c v t0 t1 ty (x.1:Int) (x.2:Int)) (fun _=>mem l n c v t0 t1 ty) (fun x=>x.1≤k∧k≤x.2∧x.2≤n) (fun x=>x.2-x.1) ?_ (0,n) ⟨Nat.zero_le _,by omega,Nat.le_refl _⟩ g
 rintro⟨i,j⟩ g ⟨h1,h2,h3⟩
 simp only at h1 h2 h3
 rcases Nat.lt_or_ge i j with hij | hij
 ·have f1:IntKind.i64.wrap ((i:Int)+(j:Int))=((i+j:Nat):Int):=by rw[IntKind.wrap_i64];omega
  have f2:IntKind.u64.wrap ((i+j:Nat):Int)=((i+j:Nat):Int):=by rw[IntKind.wrap_u64];omega
  have f3:((i+j:Nat):Int).fdiv (2^1)=(((i+j)/2:Nat):Int):=by rw[Int.fdiv_eq_ediv_of_nonneg _ (by decide)];omega
  have f4:IntKind.i64.wrap (((i+j)/2:Nat):Int)=(((i+j)/2:Nat):Int):=by rw[IntKind.wrap_i64];omega
  have hh:(i+j)/2<n:=by omega
  have rest:∀b,bitV (l.getD ((i+j)/2) zn).pre v.toNat=b→aI.enc (bitV ((ak (((ah l).drop (0+0)).take (n*65))).getD (((i+j)/2:Nat):Int).toNat zn).pre v.toNat)=aI.enc b:=fun b hb=>by
   rw[hY,aU,Int.toNat_natCast,hb]
  have pr:(((ah l).drop (0+0)).take (n*65))=ah (ak (((ah l).drop (0+0)).take (n*65)))∧(ak (((ah l).drop (0+0)).take (n*65))).length=n∧aL (ak (((ah l).drop (0+0)).take (n*65))):=by
   rw[hY,aU];exact⟨rfl,hn,hok⟩
  cases hb:bitV (l.getD ((i+j)/2) zn).pre v.toNat with
  | false=>
   have hlt:(i+j)/2<k:=by
    rcases Nat.lt_or_ge ((i+j)/2) k with q | q
    ·exact q
    ·rw[hk.yes _ q (by omega)] at hb;cases hb
   refine Runs.au aj mixed (lo l n c v t0 t1 ty _ _ _ _ (((i+j)/2+1:Nat):Int) g) ⟨decide_eq_true (by omega),f1,f2,f3,f4,by omega,pr.1,pr.2.1,by omega,by omega,v0,v1,pr.2.2,rest _ hb,by rw[IntKind.wrap_i64];omega,trivial⟩ (ids _ _ _ _ _ _ _ _ _) rfl fun g=> ?_
   exact⟨((i+j)/2+1,j),g,rfl,rfl,⟨by simp only;omega,by simp only;omega,by simp only;omega⟩,by simp only;omega⟩
  | true=>
   have hge:k≤(i+j)/2:=by
    rcases Nat.lt_or_ge ((i+j)/2) k with q | q
    ·rw[hk.no _ q] at hb;cases hb
    ·exact q
   refine Runs.au aj mixed (hi l n c v t0 t1 ty _ _ _ _ g) ⟨decide_eq_true (by omega),f1,f2,f3,f4,by omega,pr.1,pr.2.1,by omega,by omega,v0,v1,pr.2.2,rest _ hb,trivial⟩ (ids _ _ _ _ _ _ _ _ _) rfl fun g=> ?_
   exact⟨(i,(i+j)/2),g,rfl,rfl,⟨by simp only;omega,by simp only;omega,by simp only;omega⟩,by simp only;omega⟩
 ·refine Runs.au aj mixed (out l n c v t0 t1 ty _ _ g) ⟨decide_eq_false (by omega),trivial⟩ (ids _ _ _ _ _ _ _ _ _) rfl fun g=> ?_
  show aC _ _ _ _ _ _ _
  refine Runs.au aj mixed (fin l n c v t0 t1 ty _ _ g) trivial (idsZ _ _ _ _ _ _ _ _) rfl fun g=>aG.ret (zr _ _ _ _ _ _ _ _ g) ?_
  rw[show i=k by omega]
  rfl
noncomputable def con:Con Tryd.prog GT:=Con.clo aj 91 fn Tryd.func91 (by kernel_rfl) (c:=body) (by kernel_rfl) 65 (CloP.fn 92) seaSpec (fun a x r p h=>by cases h;rfl)
 (fun a x t0 t1 ty r p h hp hl=>by
  cases h
  obtain⟨p1,p2,p3,p4,p5,p6,p7,p8,_⟩:=hp
  obtain⟨ys,n,c,v⟩:=x
  simp only at p1 p2 p3 p4 p5 p6 p7 p8
  subst p3
  have q:=run (ak ys) n c _ v t0 t1 ty p2 p4 p5 p6 p7 p8
  unfold mem at q
  rw[←p1] at q
  exact q)
end sea
namespace spl
noncomputable abbrev fn:=Tryd.f79
noncomputable def body:Code:=bq fn
noncomputable def Γ:Cons Tryd.prog GT:=[tcom.con,sea.con]
def M (l:List Nd) (n c:Nat) (ty:TypeId) (k o:Nat):List (Option SV):=aF 29 0 [(2,.o (.a (.sld 0 0 0 k c))),(3,.o (.a (.sld 0 0 o (n-k) (c-k)))),(4,.o (.a (.ptr 2 0)))]
section
variable (l:List Nd) (n c:Nat) (ty:TypeId)
def mem (v:Int):List Blk:=[⟨false,ty,.prv (ah l)⟩,⟨true,36,.lit [.sld 0 0 0 n c]⟩,⟨true,3,.lit [int1 .i64 v]⟩]
theorem ids (k o:Nat) (v:Int):aD (mem l n c ty v).length (M l n c ty k o) (mem l n c ty v)=true:=by kernel_rfl
theorem s (k o:Nat) (m v:Int) (a b:B32):outX (mem l n c ty v).length (M l n c ty k o) (exec Γ tys 300 body ⟨aH fn [.o (.a (.sld 0 0 0 n c))],[⟨false,ty,.prv (ah l)⟩],[(9,[.ds (cB32.enc a)]),(13,[.n m]),(16,[.ds (cB32.enc b)]),(17,[.s (.o (.a (int1 .i64 v)))]),(21,[.s (.o (.a (int1 .i64 (k:Int))))]),(27,[.s (.o (.a (.sld 0 0 o (n-k) (c-k))))])]⟩)=some (.ret,live (M l n c ty k o),(M l n c ty k o).length,mem l n c ty v,[0≤(0:Int),(0:Int)<n,0+(offI 0 (0:Int) 65+1)+32≤(ah l).length,SV.o (.g (aZ (ah l) (0+(offI 0 (0:Int) 65+1)) 32))=cB32.enc a,IntKind.i64.wrap ((n:Int)-1)=m,0≤m,m<n,0+(offI 0 m 65+1)+32≤(ah l).length,SV.o (.g (aZ (ah l) (0+(offI 0 m 65+1)) 32))=cB32.enc b,BOk a,BOk b,(cInt .i64).enc (comV a b:Nat)=(cInt .i64).enc v,0+0+n*65≤(ah l).length,((ah l).drop (0+0)).take (n*65)=ah (ak (((ah l).drop (0+0)).take (n*65))),(ak (((ah l).drop (0+0)).take (n*65))).length=n,(n:Int)=n,n<aQ,0≤v,v<256,aL (ak (((ah l).drop (0+0)).take (n*65))),MonoB (ak (((ah l).drop (0+0)).take (n*65))) v.toNat (splK (ak (((ah l).drop (0+0)).take (n*65))) v.toNat),(cInt .i64).enc (splK (ak (((ah l).drop (0+0)).take (n*65))) v.toNat:Nat)=(cInt .i64).enc (k:Int),0≤(0:Int),(0:Int)≤k,(k:Int)≤c,0≤(k:Int),(k:Int)≤n,(n:Int)≤c,SV.o (.a (.sld 0 0 (advS c k 0 65) (n-k) (c-k)))=SV.o (.a (.sld 0 0 o (n-k) (c-k)))]):=by kernel_rfl
theorem zr (k o:Nat) (v:Int) (g:Nat→SV):eRes tys (fill g 0 (M l n c ty k o)) (fun k=>(mem l n c ty v)[k]?) fn.results.toList=some [.a (.sld 0 0 0 k c),.a (.sld 0 0 o (n-k) (c-k)),.a (int1 .i64 v)]:=by kernel_rfl
end
end spl
namespace hlv
noncomputable abbrev fn:=Tryd.f82
noncomputable def body:Code:=bq fn
noncomputable def LB:Code:=cL (cB (cs1 (csuf 2 body)))
noncomputable def D:Code:=cs2 (csuf 2 body)
noncomputable def Γ:Cons Tryd.prog GT:=[rbit.con]
theorem bG:csuf 2 body= .seq (.block 0 (.loop LB)) D:=by kernel_rfl
def M (l:List Nd) (n c:Nat) (ty:TypeId) (v:Int) (i:Int):List (Option SV):=aF 29 0 [(0,.o (.a (.sld 0 0 0 n c))),(1,.o (.a (int1 .i64 v))),(6,.o (.a (int1 .i64 i)))]
def MZ (l:List Nd) (n c:Nat) (ty:TypeId) (v:Int) (k o:Nat):List (Option SV):=aF 29 0 [(4,.o (.a (.sld 0 0 0 k c))),(5,.o (.a (.sld 0 0 o (n-k) (c-k))))]
section
variable (l:List Nd)
def mem (n c:Nat) (ty:TypeId) (v:Int):List Blk:=[⟨false,ty,.prv (ah l)⟩]
theorem ids (n c:Nat) (ty:TypeId) (v:Int) (i:Int):aD (mem l n c ty v ).length (M l n c ty v i) (mem l n c ty v )=true:=by kernel_rfl
theorem idsZ (n c:Nat) (ty:TypeId) (v:Int) (k o:Nat):aD (mem l n c ty v ).length (MZ l n c ty v k o) (mem l n c ty v )=true:=by kernel_rfl
theorem s0 (n c:Nat) (ty:TypeId) (v:Int):outX (mem l n c ty v ).length (M l n c ty v 0) (exec Γ tys 300 (cpre 2 body) ⟨aH fn [.o (.a (.sld 0 0 0 n c)),.o (.a (int1 .i64 v))],mem l n c ty v ,[]⟩)=some (.normal,live (M l n c ty v 0),(M l n c ty v 0).length,mem l n c ty v ,[]):=by kernel_rfl
theorem stp (n c:Nat) (ty:TypeId) (v:Int) (i j y:Int) (x:B32) (g:Nat→SV):outX (mem l n c ty v ).length (M l n c ty v j) (exec Γ tys 300 LB ⟨fill g 0 (M l n c ty v i),mem l n c ty v ,[(10,[.b true]),(16,[.ds (cB32.enc x)]),(18,[.s (.o (.a (int1 .u8 y)))]),(19,[.b true]),(22,[.n j])]⟩)=some (.normal,live (M l n c ty v j),(M l n c ty v j).length,mem l n c ty v ,[decide (i<n)=true,0≤i,i<n,0+(offI 0 i 65+1)+32≤(ah l).length,SV.o (.g (aZ (ah l) (0+(offI 0 i 65+1)) 32))=cB32.enc x,0≤v,v<256,BOk x,(cInt .u8).enc (bitI x v.toNat)=(cInt .u8).enc y,(y==0)=true,IntKind.i64.wrap (i+1)=j]):=by kernel_rfl
theorem hit (n c:Nat) (ty:TypeId) (v:Int) (i y:Int) (x:B32) (g:Nat→SV):outX (mem l n c ty v ).length (M l n c ty v i) (exec Γ tys 300 LB ⟨fill g 0 (M l n c ty v i),mem l n c ty v ,[(10,[.b true]),(16,[.ds (cB32.enc x)]),(18,[.s (.o (.a (int1 .u8 y)))]),(19,[.b false])]⟩)=some ((.exit 0),live (M l n c ty v i),(M l n c ty v i).length,mem l n c ty v ,[decide (i<n)=true,0≤i,i<n,0+(offI 0 i 65+1)+32≤(ah l).length,SV.o (.g (aZ (ah l) (0+(offI 0 i 65+1)) 32))=cB32.enc x,0≤v,v<256,BOk x,(cInt .u8).enc (bitI x v.toNat)=(cInt .u8).enc y,(y==0)=false]):=by kernel_rfl
theorem fin (n c:Nat) (ty:TypeId) (v:Int) (k o:Nat) (g:Nat→SV):outX (mem l n c ty v ).length (MZ l n c ty v k o) (exec Γ tys 300 D ⟨fill g 0 (M l n c ty v (k:Int)),mem l n c ty v ,[(28,[.s (.o (.a (.sld 0 0 o (n-k) (c-k))))])]⟩)=some (.ret,live (MZ l n c ty v k o),(MZ l n c ty v k o).length,mem l n c ty v ,[0≤(0:Int),(0:Int)≤k,(k:Int)≤c,0≤(k:Int),(k:Int)≤n,(n:Int)≤c,SV.o (.a (.sld 0 0 (advS c k 0 65) (n-k) (c-k)))=SV.o (.a (.sld 0 0 o (n-k) (c-k)))]):=by kernel_rfl
theorem zr (n c:Nat) (ty:TypeId) (v:Int) (k o:Nat) (g:Nat→SV):eRes tys (fill g 0 (MZ l n c ty v k o)) (fun k=>(mem l n c ty v )[k]?) fn.results.toList=some [.a (.sld 0 0 0 k c),.a (.sld 0 0 o (n-k) (c-k))]:=by kernel_rfl
end
end hlv
end Go.Proofs.YtdccehmekkcheaaDoor
