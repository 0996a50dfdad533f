/- Packages tree, beaconref11: Found: contracts of both sides. -/
import Derived.Test.YtdccehmekkcheaaDoorUMTC
namespace Go.Proofs.YtdccehmekkcheaaDoor
open Go Go.Eng Go.RowKit
set_option linter.unusedVariables false
set_option linter.unusedSimpArgs false
set_option maxRecDepth 100000
def scanL:List Nd→B32→B32 × Bool × Int
 | [],_=>(zB,false,0)
 | m::r,x=>bif holdsV m x then (bif m.len==256 then (m.hash,true,0) else (zB,false,2)) else scanL r x
def foundV (H:Nd→Nd→B32) (E:B32) (S:Nd→B32) (root:B32) (l:List Nd) (x:B32):B32 × Bool × Int:=
 bif (rootV H E S l).2 !=0 then (zB,false,1) else (bif !(eqL (rootV H E S l).1.to root.to) then (zB,false,3) else scanL l x)
theorem scan_drop {l:List Nd} {i:Nat} (h:i<l.length) (x:B32):scanL (l.drop i) x=bif holdsV (l.getD i zn) x then (bif (l.getD i zn).len==256 then ((l.getD i zn).hash,true,0) else (zB,false,2)) else scanL (l.drop (i+1)) x:=by
 have e:l.getD i zn=l[i]:=by simp[List.getD,List.getElem?_eq_getElem h]
 rw[e,List.drop_eq_getElem_cons h]
 rfl
def fdS (x:B32 × Bool × Int):SV:= .t [.g (cB32.row x.1),.a (bool1 x.2.1),.a (int1 .i64 x.2.2)]
theorem rootV_err (H:Nd→Nd→B32) (E:B32) (S:Nd→B32) (l:List Nd):(rootV H E S l).2=0∨(rootV H E S l).2=1:=by
 unfold rootV
 cases aP l with
 | false=>exact .inr rfl
 | true=>
  rw[cond_true]
  cases Nat.beq l.length 0
  ·exact .inl rfl
  ·exact .inl rfl
namespace tfd
noncomputable abbrev fn:=Tryd.f37
noncomputable def body:Code:=bq fn
noncomputable def L:Code:=cL (cB (cs2 (cs1 (csuf 4 body))))
noncomputable def A1:Code:=cs1 (cs1 (csuf 4 body))
noncomputable def D:Code:=cs2 (csuf 4 body)
theorem bG:csuf 4 body= .seq (.seq A1 (.block 0 (.loop L))) D:=by kernel_rfl
noncomputable def Γ (H:Nd→Nd→B32) (hH:H=hV) (E:B32) (hE':E=hE) (S:Nd→B32) (hS':S=hS):Cons Tryd.prog GT:=[trt.con H hH E hE' S hS' ,tholds.con]
namespace w
section
variable (H:Nd→Nd→B32)
def M1 (hH:H=hV) (E:B32) (hE':E=hE) (S:Nd→B32) (hS':S=hS) (root x:B32) (l:List Nd) (n c:Nat) (ty:TypeId):List (Option SV):=aF 45 0 [(1,.o (.a (.sld 0 0 0 n c))),(5,.o (.a (.ptr 1 0))),(6,.o (.a (.ptr 2 0)))]
def M2 (hH:H=hV) (E:B32) (hE':E=hE) (S:Nd→B32) (hS':S=hS) (root x:B32) (l:List Nd) (n c:Nat) (ty:TypeId) (j:Int):List (Option SV):=aF 45 0 [(5,.o (.a (.ptr 1 0))),(6,.o (.a (.ptr 2 0))),(25,.o (.a (.sld 0 0 0 n c))),(26,.o (.a (int1 .i64 n))),(27,.o (.a (int1 .i64 j)))]
def M3 (hH:H=hV) (E:B32) (hE':E=hE) (S:Nd→B32) (hS':S=hS) (root x:B32) (l:List Nd) (n c:Nat) (ty:TypeId):List (Option SV):=aF 45 0 [(6,.o (.a (.ptr 2 0)))]
def MR (hH:H=hV) (E:B32) (hE':E=hE) (S:Nd→B32) (hS':S=hS) (root x:B32) (l:List Nd) (n c:Nat) (ty:TypeId) (f:Bool) (e:Int):List (Option SV):=aF 45 0 [(6,.o (.a (.ptr 1 0))),(7,.o (.a (.v (.bool f)))),(8,.o (.a (int1 .i64 e)))]
def m1 (hH:H=hV) (E:B32) (hE':E=hE) (S:Nd→B32) (hS':S=hS) (root x:B32) (l:List Nd) (n c:Nat) (ty:TypeId):List Blk:=[⟨false,ty,.prv (ah l)⟩,⟨true,24,.lit (cB32.row x)⟩,⟨true,24,.lit (cB32.row zB)⟩]
def mR (hH:H=hV) (E:B32) (hE':E=hE) (S:Nd→B32) (hS':S=hS) (root x:B32) (l:List Nd) (n c:Nat) (ty:TypeId) (z:B32):List Blk:=[⟨false,ty,.prv (ah l)⟩,⟨true,24,.lit (cB32.row z)⟩]
theorem i1 (hH:H=hV) (E:B32) (hE':E=hE) (S:Nd→B32) (hS':S=hS) (root x:B32) (l:List Nd) (n c:Nat) (ty:TypeId):aD (m1 H hH E hE' S hS' root x l n c ty ).length (M1 H hH E hE' S hS' root x l n c ty ) (m1 H hH E hE' S hS' root x l n c ty )=true:=by kernel_rfl
theorem i2 (hH:H=hV) (E:B32) (hE':E=hE) (S:Nd→B32) (hS':S=hS) (root x:B32) (l:List Nd) (n c:Nat) (ty:TypeId) (j:Int):aD (m1 H hH E hE' S hS' root x l n c ty ).length (M2 H hH E hE' S hS' root x l n c ty j) (m1 H hH E hE' S hS' root x l n c ty )=true:=by kernel_rfl
theorem i3 (hH:H=hV) (E:B32) (hE':E=hE) (S:Nd→B32) (hS':S=hS) (root x:B32) (l:List Nd) (n c:Nat) (ty:TypeId):aD (m1 H hH E hE' S hS' root x l n c ty ).length (M3 H hH E hE' S hS' root x l n c ty ) (m1 H hH E hE' S hS' root x l n c ty )=true:=by kernel_rfl
theorem iR (hH:H=hV) (E:B32) (hE':E=hE) (S:Nd→B32) (hS':S=hS) (root x:B32) (l:List Nd) (n c:Nat) (ty:TypeId) (f:Bool) (e:Int) (z:B32):aD (mR H hH E hE' S hS' root x l n c ty z).length (MR H hH E hE' S hS' root x l n c ty f e) (mR H hH E hE' S hS' root x l n c ty z)=true:=by kernel_rfl
theorem zr (hH:H=hV) (E:B32) (hE':E=hE) (S:Nd→B32) (hS':S=hS) (root x:B32) (l:List Nd) (n c:Nat) (ty:TypeId) (f:Bool) (e:Int) (z:B32) (g:Nat→SV):eRes tys (fill g 0 (MR H hH E hE' S hS' root x l n c ty f e)) (fun k=>(mR H hH E hE' S hS' root x l n c ty z)[k]?) fn.results.toList=some [.g (cB32.row z),.a (bool1 f),.a (int1 .i64 e)]:=by kernel_rfl
theorem bad (hH:H=hV) (E:B32) (hE':E=hE) (S:Nd→B32) (hS':S=hS) (root x:B32) (l:List Nd) (n c:Nat) (ty:TypeId) (h:B32) (e:Int):outN [0,3] (MR H hH E hE' S hS' root x l n c ty false e) (exec (Γ H hH E hE' S hS' ) tys 100 body ⟨aH fn [cB32.enc root,.o (.a (.sld 0 0 0 n c)),cB32.enc x],[⟨false,ty,.prv (ah l)⟩],[(14,[.s (hsS (h,e))]),(18,[.b true])]⟩)=some (.ret,(live (MR H hH E hE' S hS' root x l n c ty false e)).map (SV.ren (piF [0,3])),(MR H hH E hE' S hS' root x l n c ty false e).length,(mR H hH E hE' S hS' root x l n c ty zB).map (fun b=>some (b.ren (piF [0,3]))),[0+0+n*65≤(ah l).length,n≤c,((ah l).drop (0+0)).take (n*65)=ah (ak (((ah l).drop (0+0)).take (n*65))),(ak (((ah l).drop (0+0)).take (n*65))).length=n,n<aQ,aL (ak (((ah l).drop (0+0)).take (n*65))),hsS (rootV H E S (ak (((ah l).drop (0+0)).take (n*65))))=hsS (h,e),(e !=0)=true]):=by kernel_rfl
theorem oth (hH:H=hV) (E:B32) (hE':E=hE) (S:Nd→B32) (hS':S=hS) (root x:B32) (l:List Nd) (n c:Nat) (ty:TypeId) (h:B32) (e:Int):outN [0,3] (MR H hH E hE' S hS' root x l n c ty false 3) (exec (Γ H hH E hE' S hS' ) tys 100 body ⟨aH fn [cB32.enc root,.o (.a (.sld 0 0 0 n c)),cB32.enc x],[⟨false,ty,.prv (ah l)⟩],[(14,[.s (hsS (h,e))]),(18,[.b false]),(23,[.b true])]⟩)=some (.ret,(live (MR H hH E hE' S hS' root x l n c ty false 3)).map (SV.ren (piF [0,3])),(MR H hH E hE' S hS' root x l n c ty false 3).length,(mR H hH E hE' S hS' root x l n c ty zB).map (fun b=>some (b.ren (piF [0,3]))),[0+0+n*65≤(ah l).length,n≤c,((ah l).drop (0+0)).take (n*65)=ah (ak (((ah l).drop (0+0)).take (n*65))),(ak (((ah l).drop (0+0)).take (n*65))).length=n,n<aQ,aL (ak (((ah l).drop (0+0)).take (n*65))),hsS (rootV H E S (ak (((ah l).drop (0+0)).take (n*65))))=hsS (h,e),(e !=0)=false,(!eqL h.to root.to)=true]):=by kernel_rfl
theorem pre (hH:H=hV) (E:B32) (hE':E=hE) (S:Nd→B32) (hS':S=hS) (root x:B32) (l:List Nd) (n c:Nat) (ty:TypeId) (h:B32) (e:Int):outN [0,2,3] (M1 H hH E hE' S hS' root x l n c ty ) (exec (Γ H hH E hE' S hS' ) tys 100 (cpre 4 body) ⟨aH fn [cB32.enc root,.o (.a (.sld 0 0 0 n c)),cB32.enc x],[⟨false,ty,.prv (ah l)⟩],[(14,[.s (hsS (h,e))]),(18,[.b false]),(23,[.b false])]⟩)=some (.normal,(live (M1 H hH E hE' S hS' root x l n c ty )).map (SV.ren (piF [0,2,3])),(M1 H hH E hE' S hS' root x l n c ty ).length,(m1 H hH E hE' S hS' root x l n c ty ).map (fun b=>some (b.ren (piF [0,2,3]))),[0+0+n*65≤(ah l).length,n≤c,((ah l).drop (0+0)).take (n*65)=ah (ak (((ah l).drop (0+0)).take (n*65))),(ak (((ah l).drop (0+0)).take (n*65))).length=n,n<aQ,aL (ak (((ah l).drop (0+0)).take (n*65))),hsS (rootV H E S (ak (((ah l).drop (0+0)).take (n*65))))=hsS (h,e),(e !=0)=false,(!eqL h.to root.to)=false]):=by kernel_rfl
theorem a1 (hH:H=hV) (E:B32) (hE':E=hE) (S:Nd→B32) (hS':S=hS) (root x:B32) (l:List Nd) (n c:Nat) (ty:TypeId) (g:Nat→SV):outX (m1 H hH E hE' S hS' root x l n c ty ).length (M2 H hH E hE' S hS' root x l n c ty 0) (exec (Γ H hH E hE' S hS' ) tys 100 A1 ⟨fill g 0 (M1 H hH E hE' S hS' root x l n c ty ),m1 H hH E hE' S hS' root x l n c ty ,[]⟩)=some (.normal,live (M2 H hH E hE' S hS' root x l n c ty 0),(M2 H hH E hE' S hS' root x l n c ty 0).length,m1 H hH E hE' S hS' root x l n c ty ,[]):=by kernel_rfl
theorem stp (hH:H=hV) (E:B32) (hE':E=hE) (S:Nd→B32) (hS':S=hS) (root x:B32) (l:List Nd) (n c:Nat) (ty:TypeId) (j j':Int) (y:Nd) (g:Nat→SV):outN [0,1,2] (M2 H hH E hE' S hS' root x l n c ty j') (exec (Γ H hH E hE' S hS' ) tys 100 L ⟨fill g 0 (M2 H hH E hE' S hS' root x l n c ty j),m1 H hH E hE' S hS' root x l n c ty ,[(28,[.b true]),(30,[.ds (cNd.enc y)]),(35,[.s (aI.enc false)]),(43,[.n j'])]⟩)=some (.normal,(live (M2 H hH E hE' S hS' root x l n c ty j')).map (SV.ren (piF [0,1,2])),(M2 H hH E hE' S hS' root x l n c ty j').length,(m1 H hH E hE' S hS' root x l n c ty ).map (fun b=>some (b.ren (piF [0,1,2]))),[decide (j<n)=true,0≤j,j<n,0+offI 0 j 65+65≤(ah l).length,SV.o (.g (aZ (ah l) (0+offI 0 j 65) 65))=cNd.enc y,BOk y.pre,BOk x,aI.enc (holdsV y x)=aI.enc false,IntKind.i64.wrap (j+1)=j']):=by kernel_rfl
theorem hit (hH:H=hV) (E:B32) (hE':E=hE) (S:Nd→B32) (hS':S=hS) (root x:B32) (l:List Nd) (n c:Nat) (ty:TypeId) (j:Int) (y:Nd) (g:Nat→SV):outN [0,2] (MR H hH E hE' S hS' root x l n c ty true 0) (exec (Γ H hH E hE' S hS' ) tys 100 L ⟨fill g 0 (M2 H hH E hE' S hS' root x l n c ty j),m1 H hH E hE' S hS' root x l n c ty ,[(28,[.b true]),(30,[.ds (cNd.enc y)]),(35,[.s (aI.enc true)]),(40,[.b true])]⟩)=some (.ret,(live (MR H hH E hE' S hS' root x l n c ty true 0)).map (SV.ren (piF [0,2])),(MR H hH E hE' S hS' root x l n c ty true 0).length,(mR H hH E hE' S hS' root x l n c ty y.hash).map (fun b=>some (b.ren (piF [0,2]))),[decide (j<n)=true,0≤j,j<n,0+offI 0 j 65+65≤(ah l).length,SV.o (.g (aZ (ah l) (0+offI 0 j 65) 65))=cNd.enc y,BOk y.pre,BOk x,aI.enc (holdsV y x)=aI.enc true,(y.len==256)=true]):=by kernel_rfl
theorem hid (hH:H=hV) (E:B32) (hE':E=hE) (S:Nd→B32) (hS':S=hS) (root x:B32) (l:List Nd) (n c:Nat) (ty:TypeId) (j:Int) (y:Nd) (g:Nat→SV):outN [0,2] (MR H hH E hE' S hS' root x l n c ty false 2) (exec (Γ H hH E hE' S hS' ) tys 100 L ⟨fill g 0 (M2 H hH E hE' S hS' root x l n c ty j),m1 H hH E hE' S hS' root x l n c ty ,[(28,[.b true]),(30,[.ds (cNd.enc y)]),(35,[.s (aI.enc true)]),(40,[.b false])]⟩)=some (.ret,(live (MR H hH E hE' S hS' root x l n c ty false 2)).map (SV.ren (piF [0,2])),(MR H hH E hE' S hS' root x l n c ty false 2).length,(mR H hH E hE' S hS' root x l n c ty zB).map (fun b=>some (b.ren (piF [0,2]))),[decide (j<n)=true,0≤j,j<n,0+offI 0 j 65+65≤(ah l).length,SV.o (.g (aZ (ah l) (0+offI 0 j 65) 65))=cNd.enc y,BOk y.pre,BOk x,aI.enc (holdsV y x)=aI.enc true,(y.len==256)=false]):=by kernel_rfl
theorem out (hH:H=hV) (E:B32) (hE':E=hE) (S:Nd→B32) (hS':S=hS) (root x:B32) (l:List Nd) (n c:Nat) (ty:TypeId) (j:Int) (g:Nat→SV):outX (m1 H hH E hE' S hS' root x l n c ty ).length (M3 H hH E hE' S hS' root x l n c ty ) (exec (Γ H hH E hE' S hS' ) tys 100 L ⟨fill g 0 (M2 H hH E hE' S hS' root x l n c ty j),m1 H hH E hE' S hS' root x l n c ty ,[(28,[.b false])]⟩)=some ((.exit 0),live (M3 H hH E hE' S hS' root x l n c ty ),(M3 H hH E hE' S hS' root x l n c ty ).length,m1 H hH E hE' S hS' root x l n c ty ,[decide (j<n)=false]):=by kernel_rfl
theorem fin (hH:H=hV) (E:B32) (hE':E=hE) (S:Nd→B32) (hS':S=hS) (root x:B32) (l:List Nd) (n c:Nat) (ty:TypeId) (g:Nat→SV):outN [0,2] (MR H hH E hE' S hS' root x l n c ty false 0) (exec (Γ H hH E hE' S hS' ) tys 100 D ⟨fill g 0 (M3 H hH E hE' S hS' root x l n c ty ),m1 H hH E hE' S hS' root x l n c ty ,[]⟩)=some (.ret,(live (MR H hH E hE' S hS' root x l n c ty false 0)).map (SV.ren (piF [0,2])),(MR H hH E hE' S hS' root x l n c ty false 0).length,(mR H hH E hE' S hS' root x l n c ty zB).map (fun b=>some (b.ren (piF [0,2]))),[]):=by kernel_rfl
theorem run (hH:H=hV) (E:B32) (hE':E=hE) (S:Nd→B32) (hS':S=hS) (root x:B32) (l:List Nd) (n c:Nat) (ty:TypeId) (hn:l.length=n) (hm:n<aQ) (hc:n≤c) (hok:aL l) (hx:BOk x):aC Tryd.prog GT 1 body (aH fn [cB32.enc root,.o (.a (.sld 0 0 0 n c)),cB32.enc x]) [⟨false,ty,.prv (ah l)⟩] (aG tys fn (aS (fdS (foundV H E S root l x)) .none)):=by
 obtain⟨y1,y2⟩:=apN_two n hn
 have hl:(ah l).length=n*65:=by rw[←hn];exact aR l
 unfold foundV
 cases hq:((rootV H E S l).2 !=0) with
 | true=>
  have h1:(rootV H E S l).2=1:=by
   rcases rootV_err H E S l with h | h
   ·rw[h] at hq;cases hq
   ·exact h
  rw[cond_true]
  refine Runs.aK aj mixed [0,3] (bad H hH E hE' S hS' root x l n c ty (rootV H E S l).1 (rootV H E S l).2) ⟨by omega,hc,y1,by rw[y2];exact hn,hm,by rw[y2];exact hok,by rw[y2],hq,trivial⟩ (iR H hH E hE' S hS' root x l n c ty _ _ _) rfl fun g=>aG.ret (zr H hH E hE' S hS' root x l n c ty _ _ _ g) ?_
  rw[h1];rfl
 | false=>
  rw[cond_false]
  cases hr:(!eqL (rootV H E S l).1.to root.to) with
  | true=>
   rw[cond_true]
   exact Runs.aK aj mixed [0,3] (oth H hH E hE' S hS' root x l n c ty (rootV H E S l).1 (rootV H E S l).2) ⟨by omega,hc,y1,by rw[y2];exact hn,hm,by rw[y2];exact hok,by rw[y2],hq,hr,trivial⟩ (iR H hH E hE' S hS' root x l n c ty _ _ _) rfl fun g=>aG.ret (zr H hH E hE' S hS' root x l n c ty _ _ _ g) rfl
  | false=>
   rw[cond_false]
   refine Runs.of_outNP aj mixed 4 [0,2,3] (pre H hH E hE' S hS' root x l n c ty (rootV H E S l).1 (rootV H E S l).2) ⟨by omega,hc,y1,by rw[y2];exact hn,hm,by rw[y2];exact hok,by rw[y2],hq,hr,trivial⟩ (i1 H hH E hE' S hS' root x l n c ty ) rfl fun g=> ?_
   rw[bG]
   refine Runs.seq (Runs.seq (Runs.au aj mixed (a1 H hH E hE' S hS' root x l n c ty g) trivial (i2 H hH E hE' S hS' root x l n c ty _) rfl fun g=> ?_))
   refine Runs.block ?_
   refine Runs.bC (fun(i:Nat)=>M2 H hH E hE' S hS' root x l n c ty (i:Int)) (fun _=>m1 H hH E hE' S hS' root x l n c ty ) (fun i=>i≤n∧scanL l x=scanL (l.drop i) x) (fun i=>n-i) ?_ 0 ⟨Nat.zero_le _,rfl⟩ g
   rintro i g ⟨hi,hs⟩
   rcases Nat.lt_or_ge i n with h | h
   ·have o65:=offs i 65
    have o33:0+(offI 0 (i:Int) 65+33)=i*65+33:=by rw[offI_eq];simp
    have hb5:i*65+65≤n*65:=by have:=Nat.mul_le_mul_right 65 (show i+1≤n by omega);omega
    have q1:0+offI 0 (i:Int) 65+65≤(ah l).length:=by rw[o65,hl];omega
    have q2:SV.o (.g (aZ (ah l) (0+offI 0 (i:Int) 65) 65))=cNd.enc (l.getD i zn):=by rw[o65];exact ld_nd l (by omega)
    have q3:=(hok.at (show i<l.length by omega)).1
    rw[scan_drop (by omega)] at hs
    cases hv:holdsV (l.getD i zn) x with
    | false=>
     rw[hv,cond_false] at hs
     refine Runs.aK aj mixed [0,1,2] (stp H hH E hE' S hS' root x l n c ty i ((i+1:Nat):Int) (l.getD i zn) g) ⟨decide_eq_true (by omega),by omega,by omega,q1,q2,q3,hx,by rw[hv],by rw[IntKind.wrap_i64];unfold aQ at hm;omega,trivial⟩ (i2 H hH E hE' S hS' root x l n c ty _) rfl fun g=> ?_
     exact⟨i+1,g,rfl,rfl,⟨by omega,hs⟩,by omega⟩
    | true=>
     rw[hv,cond_true] at hs
     rw[hs]
     cases h6:((l.getD i zn).len==256) with
     | true=>exact Runs.aK aj mixed [0,2] (hit H hH E hE' S hS' root x l n c ty i (l.getD i zn) g) ⟨decide_eq_true (by omega),by omega,by omega,q1,q2,q3,hx,by rw[hv],h6,trivial⟩ (iR H hH E hE' S hS' root x l n c ty _ _ _) rfl fun g=>aG.ret (zr H hH E hE' S hS' root x l n c ty _ _ _ g) rfl
     | false=>exact Runs.aK aj mixed [0,2] (hid H hH E hE' S hS' root x l n c ty i (l.getD i zn) g) ⟨decide_eq_true (by omega),by omega,by omega,q1,q2,q3,hx,by rw[hv],h6,trivial⟩ (iR H hH E hE' S hS' root x l n c ty _ _ _) rfl fun g=>aG.ret (zr H hH E hE' S hS' root x l n c ty _ _ _ g) rfl
   ·obtain rfl:i=n:=by omega
    refine Runs.au aj mixed (out H hH E hE' S hS' root x l i c ty _ g) ⟨decide_eq_false (by omega),trivial⟩ (i3 H hH E hE' S hS' root x l i c ty ) rfl fun g=> ?_
    show aC _ _ _ _ _ _ _
    rw[hs,List.drop_eq_nil_of_le (by omega)]
    exact Runs.aK aj mixed [0,2] (fin H hH E hE' S hS' root x l i c ty g) trivial (iR H hH E hE' S hS' root x l i c ty _ _ _) rfl fun g=>aG.ret (zr H hH E hE' S hS' root x l i c ty _ _ _ g) rfl
end
end w
namespace n
section
variable (H:Nd→Nd→B32)
def M1 (hH:H=hV) (E:B32) (hE':E=hE) (S:Nd→B32) (hS':S=hS) (root x:B32) (a:Option Addr):List (Option SV):=aF 45 0 [(1,.o (.a (.v (.slice a 0 0)))),(5,.o (.a (.ptr 0 0))),(6,.o (.a (.ptr 1 0)))]
def M2 (hH:H=hV) (E:B32) (hE':E=hE) (S:Nd→B32) (hS':S=hS) (root x:B32) (a:Option Addr) (j:Int):List (Option SV):=aF 45 0 [(5,.o (.a (.ptr 0 0))),(6,.o (.a (.ptr 1 0))),(25,.o (.a (.v (.slice a 0 0)))),(26,.o (.a (int1 .i64 0))),(27,.o (.a (int1 .i64 j)))]
def M3 (hH:H=hV) (E:B32) (hE':E=hE) (S:Nd→B32) (hS':S=hS) (root x:B32) (a:Option Addr):List (Option SV):=aF 45 0 [(6,.o (.a (.ptr 1 0)))]
def MR (hH:H=hV) (E:B32) (hE':E=hE) (S:Nd→B32) (hS':S=hS) (root x:B32) (a:Option Addr) (f:Bool) (e:Int):List (Option SV):=aF 45 0 [(6,.o (.a (.ptr 0 0))),(7,.o (.a (.v (.bool f)))),(8,.o (.a (int1 .i64 e)))]
def m1 (hH:H=hV) (E:B32) (hE':E=hE) (S:Nd→B32) (hS':S=hS) (root x:B32) (a:Option Addr):List Blk:=[⟨true,24,.lit (cB32.row x)⟩,⟨true,24,.lit (cB32.row zB)⟩]
def mR (hH:H=hV) (E:B32) (hE':E=hE) (S:Nd→B32) (hS':S=hS) (root x:B32) (a:Option Addr) (z:B32):List Blk:=[⟨true,24,.lit (cB32.row z)⟩]
theorem i1 (hH:H=hV) (E:B32) (hE':E=hE) (S:Nd→B32) (hS':S=hS) (root x:B32) (a:Option Addr):aD (m1 H hH E hE' S hS' root x a ).length (M1 H hH E hE' S hS' root x a ) (m1 H hH E hE' S hS' root x a )=true:=by kernel_rfl
theorem i2 (hH:H=hV) (E:B32) (hE':E=hE) (S:Nd→B32) (hS':S=hS) (root x:B32) (a:Option Addr) (j:Int):aD (m1 H hH E hE' S hS' root x a ).length (M2 H hH E hE' S hS' root x a j) (m1 H hH E hE' S hS' root x a )=true:=by kernel_rfl
theorem i3 (hH:H=hV) (E:B32) (hE':E=hE) (S:Nd→B32) (hS':S=hS) (root x:B32) (a:Option Addr):aD (m1 H hH E hE' S hS' root x a ).length (M3 H hH E hE' S hS' root x a ) (m1 H hH E hE' S hS' root x a )=true:=by kernel_rfl
theorem iR (hH:H=hV) (E:B32) (hE':E=hE) (S:Nd→B32) (hS':S=hS) (root x:B32) (a:Option Addr) (f:Bool) (e:Int) (z:B32):aD (mR H hH E hE' S hS' root x a z).length (MR H hH E hE' S hS' root x a f e) (mR H hH E hE' S hS' root x a z)=true:=by kernel_rfl
theorem zr (hH:H=hV) (E:B32) (hE':E=hE) (S:Nd→B32) (hS':S=hS) (root x:B32) (a:Option Addr) (f:Bool) (e:Int) (z:B32) (g:Nat→SV):eRes tys (fill g 0 (MR H hH E hE' S hS' root x a f e)) (fun k=>(mR H hH E hE' S hS' root x a z)[k]?) fn.results.toList=some [.g (cB32.row z),.a (bool1 f),.a (int1 .i64 e)]:=by kernel_rfl
theorem oth (hH:H=hV) (E:B32) (hE':E=hE) (S:Nd→B32) (hS':S=hS) (root x:B32) (a:Option Addr) (h:B32) (e:Int):outN [2] (MR H hH E hE' S hS' root x a false 3) (exec (Γ H hH E hE' S hS' ) tys 100 body ⟨aH fn [cB32.enc root,.o (.a (.v (.slice a 0 0))),cB32.enc x],[],[(14,[.s (hsS (h,e))]),(18,[.b false]),(23,[.b true])]⟩)=some (.ret,(live (MR H hH E hE' S hS' root x a false 3)).map (SV.ren (piF [2])),(MR H hH E hE' S hS' root x a false 3).length,(mR H hH E hE' S hS' root x a zB).map (fun b=>some (b.ren (piF [2]))),[hsS (E,0)=hsS (h,e),(e !=0)=false,(!eqL h.to root.to)=true]):=by kernel_rfl
theorem pre (hH:H=hV) (E:B32) (hE':E=hE) (S:Nd→B32) (hS':S=hS) (root x:B32) (a:Option Addr) (h:B32) (e:Int):outN [1,2] (M1 H hH E hE' S hS' root x a ) (exec (Γ H hH E hE' S hS' ) tys 100 (cpre 4 body) ⟨aH fn [cB32.enc root,.o (.a (.v (.slice a 0 0))),cB32.enc x],[],[(14,[.s (hsS (h,e))]),(18,[.b false]),(23,[.b false])]⟩)=some (.normal,(live (M1 H hH E hE' S hS' root x a )).map (SV.ren (piF [1,2])),(M1 H hH E hE' S hS' root x a ).length,(m1 H hH E hE' S hS' root x a ).map (fun b=>some (b.ren (piF [1,2]))),[hsS (E,0)=hsS (h,e),(e !=0)=false,(!eqL h.to root.to)=false]):=by kernel_rfl
theorem a1 (hH:H=hV) (E:B32) (hE':E=hE) (S:Nd→B32) (hS':S=hS) (root x:B32) (a:Option Addr) (g:Nat→SV):outX (m1 H hH E hE' S hS' root x a ).length (M2 H hH E hE' S hS' root x a 0) (exec (Γ H hH E hE' S hS' ) tys 100 A1 ⟨fill g 0 (M1 H hH E hE' S hS' root x a ),m1 H hH E hE' S hS' root x a ,[]⟩)=some (.normal,live (M2 H hH E hE' S hS' root x a 0),(M2 H hH E hE' S hS' root x a 0).length,m1 H hH E hE' S hS' root x a ,[]):=by kernel_rfl
theorem out (hH:H=hV) (E:B32) (hE':E=hE) (S:Nd→B32) (hS':S=hS) (root x:B32) (a:Option Addr) (g:Nat→SV):outX (m1 H hH E hE' S hS' root x a ).length (M3 H hH E hE' S hS' root x a ) (exec (Γ H hH E hE' S hS' ) tys 100 L ⟨fill g 0 (M2 H hH E hE' S hS' root x a 0),m1 H hH E hE' S hS' root x a ,[]⟩)=some ((.exit 0),live (M3 H hH E hE' S hS' root x a ),(M3 H hH E hE' S hS' root x a ).length,m1 H hH E hE' S hS' root x a ,[]):=by kernel_rfl
theorem fin (hH:H=hV) (E:B32) (hE':E=hE) (S:Nd→B32) (hS':S=hS) (root x:B32) (a:Option Addr) (g:Nat→SV):outN [1] (MR H hH E hE' S hS' root x a false 0) (exec (Γ H hH E hE' S hS' ) tys 100 D ⟨fill g 0 (M3 H hH E hE' S hS' root x a ),m1 H hH E hE' S hS' root x a ,[]⟩)=some (.ret,(live (MR H hH E hE' S hS' root x a false 0)).map (SV.ren (piF [1])),(MR H hH E hE' S hS' root x a false 0).length,(mR H hH E hE' S hS' root x a zB).map (fun b=>some (b.ren (piF [1]))),[]):=by kernel_rfl
theorem run (hH:H=hV) (E:B32) (hE':E=hE) (S:Nd→B32) (hS':S=hS) (root x:B32) (a:Option Addr):aC Tryd.prog GT 0 body (aH fn [cB32.enc root,.o (.a (.v (.slice a 0 0))),cB32.enc x]) [] (aG tys fn (aS (fdS (foundV H E S root [] x)) .none)):=by
 show aC _ _ _ _ _ _ (aG tys fn (aS (fdS (bif !(eqL E.to root.to) then (zB,false,3) else (zB,false,0))) .none))
 cases hr:(!eqL E.to root.to) with
 | true=>
  rw[cond_true]
  exact Runs.aK aj mixed [2] (oth H hH E hE' S hS' root x a E 0) ⟨rfl,rfl,hr,trivial⟩ (iR H hH E hE' S hS' root x a _ _ _) rfl fun g=>aG.ret (zr H hH E hE' S hS' root x a _ _ _ g) rfl
 | false=>
  rw[cond_false]
  refine Runs.of_outNP aj mixed 4 [1,2] (pre H hH E hE' S hS' root x a E 0) ⟨rfl,rfl,hr,trivial⟩ (i1 H hH E hE' S hS' root x a ) rfl fun g=> ?_
  rw[bG]
  refine Runs.seq (Runs.seq (Runs.au aj mixed (a1 H hH E hE' S hS' root x a g) trivial (i2 H hH E hE' S hS' root x a _) rfl fun g=> ?_))
  refine Runs.block ?_
  refine Runs.bC (fun(_:Unit)=>M2 H hH E hE' S hS' root x a 0) (fun _=>m1 H hH E hE' S hS' root x a ) (fun _=>True) (fun _=>0) ?_ () trivial g
  rintro _ g _
  refine Runs.au aj mixed (out H hH E hE' S hS' root x a g) trivial (i3 H hH E hE' S hS' root x a ) rfl fun g=> ?_
  show aC _ _ _ _ _ _ _
  exact Runs.aK aj mixed [1] (fin H hH E hE' S hS' root x a g) trivial (iR H hH E hE' S hS' root x a _ _ _) rfl fun g=>aG.ret (zr H hH E hE' S hS' root x a _ _ _ g) rfl
end
end n
def spec (H:Nd→Nd→B32) (E:B32) (S:Nd→B32):List PArg→Option (SV × LEff × Cst)
 | [.val r,.winv _ vs n ty,.val z]=>match cB32.dec r,cB32.dec z with
  | some root,some x=>some (fdS (foundV H E S root (ak vs) x),.none,[vs=ah (ak vs),(ak vs).length=n,n<aQ,aL (ak vs),BOk x])
  | _,_=>none
 | [.val r,.val (.o (.a (.v (.slice a 0 0)))),.val z]=>match cB32.dec r,cB32.dec z with
  | some root,some x=>some (fdS (foundV H E S root [] x),.none,[])
  | _,_=>none
 | _=>none
noncomputable def con (H:Nd→Nd→B32) (hH:H=hV) (E:B32) (hE':E=hE) (S:Nd→B32) (hS':S=hS):Con Tryd.prog GT:=Con.parts aj 37 fn Tryd.func37 (by kernel_rfl) (c:=body) (by kernel_rfl) [.val,.winv 65,.val] (spec H E S)
 (fun ps r e p h hp=>by
  unfold spec at h
  split at h
  ·split at h<;>cases h
   exact⟨rfl,fun b hb=>by simp only[aN,PArg.blk,List.append_nil,List.nil_append,List.mem_singleton] at hb;rw[hb]⟩
  ·split at h<;>cases h
   exact⟨rfl,fun b hb=>by simp[aN,PArg.blk] at hb⟩
  ·cases h)
 (fun ps r e p cap h hp hi=>by
  unfold spec at h
  split at h
  ·rename_i r0 s0 vs n ty z0
   split at h<;>cases h
   rename_i root x k1 k2
   have e1:=cB32.ok _ _ k1
   have e2:=cB32.ok _ _ k2
   subst e1
   subst e2
   obtain⟨p1,p2,p3,p4,p5,_⟩:=hp
   have q:=w.run H hH E hE' S hS' root x (ak vs) n (cap 0) ty p2 p3 hi.2.1.2 p4 p5
   rw[←p1] at q
   exact q
  ·rename_i r0 a z0
   split at h<;>cases h
   rename_i root x k1 k2
   have e1:=cB32.ok _ _ k1
   have e2:=cB32.ok _ _ k2
   subst e1
   subst e2
   exact n.run H hH E hE' S hS' root x a
  ·cases h)
end tfd
end Go.Proofs.YtdccehmekkcheaaDoor
