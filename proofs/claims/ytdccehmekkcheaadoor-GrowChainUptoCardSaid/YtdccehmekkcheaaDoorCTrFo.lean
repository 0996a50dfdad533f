/- Packages tree, beaconref11: Found: contracts of both sides. -/
import Derived.Test.YtdccehmekkcheaaDoorCFo
import Derived.Test.YtdccehmekkcheaaDoorCMTC
set_option linter.unusedSimpArgs false
set_option linter.unusedVariables false
namespace Go.Proofs.YtdccehmekkcheaaDoor
open Go Go.Eng Go.RowKit
set_option maxRecDepth 100000
def oz:List Nd→B32→B32 × Bool × Int
 | [],_=>(zB,false,0)
 | m::r,x=>bif holdsV m x then (bif m.len==256 then (m.hash,true,0) else (zB,false,2)) else oz r x
def nL (H:Nd→Nd→B32) (E:B32) (S:Nd→B32) (root:B32) (l:List Nd) (x:B32):B32 × Bool × Int:=
 bif (bO H E S l).2 !=0 then (zB,false,1) else (bif !(eqL (bO H E S l).1.to root.to) then (zB,false,3) else oz l x)
theorem ld_hash (l:List Nd) {i:Nat} (hi:i<l.length):SV.o (.g (bn (ah l) (i*65+33) 32))=ay.enc (l.getD i zn).hash:=by
 rw[lF Nd.dG l zn 33 32 hi (by omega)]
 rfl
theorem scan_drop {l:List Nd} {i:Nat} (h:i<l.length) (x:B32):oz (l.drop i) x=bif holdsV (l.getD i zn) x then (bif (l.getD i zn).len==256 then ((l.getD i zn).hash,true,0) else (zB,false,2)) else oz (l.drop (i+1)) x:=by
 have e:l.getD i zn=l[i]:=by simp[List.getD,List.getElem?_eq_getElem h]
 rw[e,List.drop_eq_getElem_cons h]
 rfl
def fdS (x:B32 × Bool × Int):SV:= .t [.g (ay.row x.1),.a (fH x.2.1),.a (aG .i64 x.2.2)]
theorem rootV_err (H:Nd→Nd→B32) (E:B32) (S:Nd→B32) (l:List Nd):(bO H E S l).2=0∨(bO H E S l).2=1:=by
 unfold bO
 cases bC l with
 | false=>exact .inr rfl
 | true=>
  rw[cond_true]
  cases Nat.beq l.length 0
  ·exact .inl rfl
  ·exact .inl rfl
namespace rfd
noncomputable abbrev fn:=Tryd.f38
noncomputable def body:Code:=d9 fn
noncomputable def L:Code:=cL (cB (cs2 (cs1 (bM 4 body))))
noncomputable def A1:Code:=cs1 (cs1 (bM 4 body))
noncomputable def D:Code:=cs2 (bM 4 body)
theorem dJ:bM 4 body= .seq (.seq A1 (.block 0 (.loop L))) D:=by kernel_rfl
noncomputable def Γ (H:Nd→Nd→B32) (hH:H=hV) (E:B32) (hE':E=hE) (S:Nd→B32) (hS':S=hS):Cons Tryd.prog GT:=[rrt.con H hH E hE' S hS' ,rholds.con]
namespace w
def M1 (n c:Nat):List (Option SV):=aD 49 0 [(1,.o (.a (.sld 0 0 0 n c))),(5,.o (.a (.ptr 1 0))),(6,.o (.a (.ptr 2 0)))]
def M2 (n c:Nat) (j:Int):List (Option SV):=aD 49 0 [(1,.o (.a (.sld 0 0 0 n c))),(5,.o (.a (.ptr 1 0))),(6,.o (.a (.ptr 2 0))),(25,.o (.a (aG .i64 n))),(26,.o (.a (aG .i64 j)))]
def M3:List (Option SV):=aD 49 0 [(6,.o (.a (.ptr 2 0)))]
def MR (f:Bool) (e:Int):List (Option SV):=aD 49 0 [(6,.o (.a (.ptr 1 0))),(7,.o (.a (.v (.bool f)))),(8,.o (.a (aG .i64 e)))]
def m1 (x:B32) (l:List Nd) (ty:TypeId):List Blk:=[⟨false,ty,.prv (ah l)⟩,⟨true,24,.lit (ay.row x)⟩,⟨true,24,.lit (ay.row zB)⟩]
def mR (l:List Nd) (ty:TypeId) (z:B32):List Blk:=[⟨false,ty,.prv (ah l)⟩,⟨true,24,.lit (ay.row z)⟩]
theorem i1 (x:B32) (l:List Nd) (n c:Nat) (ty:TypeId):oI (M1 n c) (m1 x l ty):=by delta oI;kernel_rfl
theorem i2 (x:B32) (l:List Nd) (n c:Nat) (ty:TypeId) (j:Int):oI (M2 n c j) (m1 x l ty):=by delta oI;kernel_rfl
theorem i3 (x:B32) (l:List Nd) (ty:TypeId):oI (M3) (m1 x l ty):=by delta oI;kernel_rfl
theorem iR (l:List Nd) (ty:TypeId) (f:Bool) (e:Int) (z:B32):oI (MR f e) (mR l ty z):=by delta oI;kernel_rfl
theorem zr (l:List Nd) (ty:TypeId) (f:Bool) (e:Int) (z:B32) (g:Nat→SV):eRes tys (fill g 0 (MR f e)) (fun k=>(mR l ty z)[k]?) fn.results.toList=some [.g (ay.row z),.a (fH f),.a (aG .i64 e)]:=by kernel_rfl
section
variable (H:Nd→Nd→B32) (hH:H=hV) (E:B32) (hE':E=hE) (S:Nd→B32) (hS':S=hS)
theorem bad (root x:B32) (l:List Nd) (n c:Nat) (ty:TypeId) (h:B32) (e:Int):oN [0,3] (Γ H hH E hE' S hS') 100 body (aK fn [ay.enc root,.o (.a (.sld 0 0 0 n c)),ay.enc x]) [⟨false,ty,.prv (ah l)⟩] [(14,[.s (hsS (h,e))]),(18,[.b true])] .ret (MR false 1) (mR l ty zB) [0+0+n*65≤(ah l).length,n≤c,((ah l).drop (0+0)).take (n*65)=ah (ak (((ah l).drop (0+0)).take (n*65))),(ak (((ah l).drop (0+0)).take (n*65))).length=n,n<bK,bg (ak (((ah l).drop (0+0)).take (n*65))),hsS (bO H E S (ak (((ah l).drop (0+0)).take (n*65))))=hsS (h,e),(e !=0)=true]:=by delta oN;kernel_rfl
theorem oth (root x:B32) (l:List Nd) (n c:Nat) (ty:TypeId) (h:B32) (e:Int):oN [0,3] (Γ H hH E hE' S hS') 100 body (aK fn [ay.enc root,.o (.a (.sld 0 0 0 n c)),ay.enc x]) [⟨false,ty,.prv (ah l)⟩] [(14,[.s (hsS (h,e))]),(18,[.b false]),(22,[.b true])] .ret (MR false 3) (mR l ty zB) [0+0+n*65≤(ah l).length,n≤c,((ah l).drop (0+0)).take (n*65)=ah (ak (((ah l).drop (0+0)).take (n*65))),(ak (((ah l).drop (0+0)).take (n*65))).length=n,n<bK,bg (ak (((ah l).drop (0+0)).take (n*65))),hsS (bO H E S (ak (((ah l).drop (0+0)).take (n*65))))=hsS (h,e),(e !=0)=false,(!eqL h.to root.to)=true]:=by delta oN;kernel_rfl
theorem pre (root x:B32) (l:List Nd) (n c:Nat) (ty:TypeId) (h:B32) (e:Int):oN [0,2,3] (Γ H hH E hE' S hS') 100 (eD 4 body) (aK fn [ay.enc root,.o (.a (.sld 0 0 0 n c)),ay.enc x]) [⟨false,ty,.prv (ah l)⟩] [(14,[.s (hsS (h,e))]),(18,[.b false]),(22,[.b false])] .normal (M1 n c) (m1 x l ty) [0+0+n*65≤(ah l).length,n≤c,((ah l).drop (0+0)).take (n*65)=ah (ak (((ah l).drop (0+0)).take (n*65))),(ak (((ah l).drop (0+0)).take (n*65))).length=n,n<bK,bg (ak (((ah l).drop (0+0)).take (n*65))),hsS (bO H E S (ak (((ah l).drop (0+0)).take (n*65))))=hsS (h,e),(e !=0)=false,(!eqL h.to root.to)=false]:=by delta oN;kernel_rfl
theorem a1 (x:B32) (l:List Nd) (n c:Nat) (ty:TypeId) (g:Nat→SV):oX (Γ H hH E hE' S hS') 100 A1 (fill g 0 (M1 n c )) (m1 x l ty) [] .normal (M2 n c 0) (m1 x l ty) []:=by delta oX;kernel_rfl
theorem stp (x:B32) (l:List Nd) (n c:Nat) (ty:TypeId) (j j':Int) (y:Nd) (g:Nat→SV):oN [0,1,2] (Γ H hH E hE' S hS') 100 L (fill g 0 (M2 n c j)) (m1 x l ty) [(27,[.b true]),(32,[.ds (cNd.enc y)]),(34,[.s (aI.enc false)]),(47,[.n j'])] .normal (M2 n c j') (m1 x l ty) [decide (j<n)=true,0≤j,j<n,0+aN 0 j 65+65≤(ah l).length,SV.o (.g (bn (ah l) (0+aN 0 j 65) 65))=cNd.enc y,BOk y.pre,BOk x,aI.enc (holdsV y x)=aI.enc false,IntKind.i64.wrap (j+1)=j']:=by delta oN;kernel_rfl
theorem hit (x:B32) (l:List Nd) (n c:Nat) (ty:TypeId) (j:Int) (y:Nd) (g:Nat→SV):oN [0,2] (Γ H hH E hE' S hS') 100 L (fill g 0 (M2 n c j)) (m1 x l ty) [(27,[.b true]),(32,[.ds (cNd.enc y)]),(34,[.s (aI.enc true)]),(39,[.ds (.o (.a (aG .i64 y.len)))]),(40,[.b true]),(45,[.ds (ay.enc y.hash)])] .ret (MR true 0) (mR l ty y.hash) [decide (j<n)=true,0≤j,j<n,0+aN 0 j 65+65≤(ah l).length,SV.o (.g (bn (ah l) (0+aN 0 j 65) 65))=cNd.enc y,BOk y.pre,BOk x,aI.enc (holdsV y x)=aI.enc true,0≤j,j<n,0+aN 0 j 65<(ah l).length,SV.o (.a (.v ((ah l).getD (0+aN 0 j 65) undef)))= .o (.a (aG .i64 y.len)),(y.len==256)=true,0≤j,j<n,0+(aN 0 j 65+33)+32≤(ah l).length,SV.o (.g (bn (ah l) (0+(aN 0 j 65+33)) 32))=ay.enc y.hash]:=by delta oN;kernel_rfl
theorem hid (x:B32) (l:List Nd) (n c:Nat) (ty:TypeId) (j:Int) (y:Nd) (g:Nat→SV):oN [0,2] (Γ H hH E hE' S hS') 100 L (fill g 0 (M2 n c j)) (m1 x l ty) [(27,[.b true]),(32,[.ds (cNd.enc y)]),(34,[.s (aI.enc true)]),(39,[.ds (.o (.a (aG .i64 y.len)))]),(40,[.b false])] .ret (MR false 2) (mR l ty zB) [decide (j<n)=true,0≤j,j<n,0+aN 0 j 65+65≤(ah l).length,SV.o (.g (bn (ah l) (0+aN 0 j 65) 65))=cNd.enc y,BOk y.pre,BOk x,aI.enc (holdsV y x)=aI.enc true,0≤j,j<n,0+aN 0 j 65<(ah l).length,SV.o (.a (.v ((ah l).getD (0+aN 0 j 65) undef)))= .o (.a (aG .i64 y.len)),(y.len==256)=false]:=by delta oN;kernel_rfl
theorem out (x:B32) (l:List Nd) (n c:Nat) (ty:TypeId) (j:Int) (g:Nat→SV):oX (Γ H hH E hE' S hS') 100 L (fill g 0 (M2 n c j)) (m1 x l ty) [(27,[.b false])] (.exit 0) (M3) (m1 x l ty) [decide (j<n)=false]:=by delta oX;kernel_rfl
theorem fin (x:B32) (l:List Nd) (ty:TypeId) (g:Nat→SV):oN [0,2] (Γ H hH E hE' S hS') 100 D (fill g 0 (M3 )) (m1 x l ty) [] .ret (MR false 0) (mR l ty zB) []:=by delta oN;kernel_rfl
end
theorem run (H:Nd→Nd→B32) (hH:H=hV) (E:B32) (hE':E=hE) (S:Nd→B32) (hS':S=hS) (root x:B32) (l:List Nd) (n c:Nat) (ty:TypeId) (hn:l.length=n) (hm:n<bK) (hc:n≤c) (hok:bg l) (hx:BOk x):aF Tryd.prog GT 1 body (aK fn [ay.enc root,.o (.a (.sld 0 0 0 n c)),ay.enc x]) [⟨false,ty,.prv (ah l)⟩] (aH tys fn (bJ (fdS (nL H E S root l x)) .none)):=by
 obtain⟨y1,y2⟩:=ow n hn
 have hl:(ah l).length=n*65:=by rw[←hn];exact bH l
 unfold nL
 cases hq:((bO H E S l).2 !=0) with
 | true=>
  have h1:(bO H E S l).2=1:=by
   rcases rootV_err H E S l with h | h
   ·rw[h] at hq;cases hq
   ·exact h
  rw[cond_true]
  refine Runs.aP aj mixed [0,3] (bad H hH E hE' S hS' root x l n c ty (bO H E S l).1 (bO H E S l).2) ⟨by omega,hc,y1,by rw[y2];exact hn,hm,by rw[y2];exact hok,by rw[y2],hq,trivial⟩ (iR l ty _ _ _) rfl fun g=>aH.ret (zr l ty _ _ _ g) ?_
  rfl
 | false=>
  rw[cond_false]
  cases hr:(!eqL (bO H E S l).1.to root.to) with
  | true=>
   rw[cond_true]
   exact Runs.aP aj mixed [0,3] (oth H hH E hE' S hS' root x l n c ty (bO H E S l).1 (bO H E S l).2) ⟨by omega,hc,y1,by rw[y2];exact hn,hm,by rw[y2];exact hok,by rw[y2],hq,hr,trivial⟩ (iR l ty _ _ _) rfl fun g=>aH.ret (zr l ty _ _ _ g) rfl
  | false=>
   rw[cond_false]
   refine Runs.lJ aj mixed 4 [0,2,3] (pre H hH E hE' S hS' root x l n c ty (bO H E S l).1 (bO H E S l).2) ⟨by omega,hc,y1,by rw[y2];exact hn,hm,by rw[y2];exact hok,by rw[y2],hq,hr,trivial⟩ (i1 x l n c ty ) rfl fun g=> ?_
   rw[dJ]
   refine Runs.seq (Runs.seq (Runs.au aj mixed (a1 H hH E hE' S hS' x l n c ty g) trivial (i2 x l n c ty _) rfl fun g=> ?_))
   refine Runs.block ?_
   refine Runs.dA (fun(i:Nat)=>M2 n c (i:Int)) (fun _=>m1 x l ty ) (fun i=>i≤n∧oz l x=oz (l.drop i) x) (fun i=>n-i) ?_ 0 ⟨Nat.zero_le _,rfl⟩ g
   rintro i g ⟨hi,hs⟩
   rcases Nat.lt_or_ge i n with h | h
   ·have o65:=offs i 65
    have o33:0+(aN 0 (i:Int) 65+33)=i*65+33:=by rw[kY];simp
    have hb5:i*65+65≤n*65:=by have:=Nat.mul_le_mul_right 65 (show i+1≤n by omega);omega
    have q1:0+aN 0 (i:Int) 65+65≤(ah l).length:=by rw[o65,hl];omega
    have q2:SV.o (.g (bn (ah l) (0+aN 0 (i:Int) 65) 65))=cNd.enc (l.getD i zn):=by rw[o65];exact ld_nd l (by omega)
    have q3:=(hok.at (show i<l.length by omega)).1
    rw[scan_drop (by omega)] at hs
    cases hv:holdsV (l.getD i zn) x with
    | false=>
     rw[hv,cond_false] at hs
     refine Runs.aP aj mixed [0,1,2] (stp H hH E hE' S hS' x l n c ty i ((i+1:Nat):Int) (l.getD i zn) g) ⟨decide_eq_true (by omega),by omega,by omega,q1,q2,q3,hx,by rw[hv],by rw[IntKind.wrap_i64];unfold bK at hm;omega,trivial⟩ (i2 x l n c ty _) rfl fun g=> ?_
     exact⟨i+1,g,rfl,rfl,⟨by omega,hs⟩,by omega⟩
    | true=>
     rw[hv,cond_true] at hs
     rw[hs]
     cases h6:((l.getD i zn).len==256) with
     | true=>exact Runs.aP aj mixed [0,2] (hit H hH E hE' S hS' x l n c ty i (l.getD i zn) g) ⟨decide_eq_true (by omega),by omega,by omega,q1,q2,q3,hx,by rw[hv],by omega,by omega,by rw[o65,hl];omega,by rw[o65];exact ld_len l (by omega),h6,by omega,by omega,by rw[o33,hl];omega,by rw[o33];exact ld_hash l (by omega),trivial⟩ (iR l ty _ _ _) rfl fun g=>aH.ret (zr l ty _ _ _ g) rfl
     | false=>exact Runs.aP aj mixed [0,2] (hid H hH E hE' S hS' x l n c ty i (l.getD i zn) g) ⟨decide_eq_true (by omega),by omega,by omega,q1,q2,q3,hx,by rw[hv],by omega,by omega,by rw[o65,hl];omega,by rw[o65];exact ld_len l (by omega),h6,trivial⟩ (iR l ty _ _ _) rfl fun g=>aH.ret (zr l ty _ _ _ g) rfl
   ·obtain rfl:i=n:=by omega
    refine Runs.au aj mixed (out H hH E hE' S hS' x l i c ty _ g) ⟨decide_eq_false (by omega),trivial⟩ (i3 x l ty ) rfl fun g=> ?_
    show aF _ _ _ _ _ _ _
    rw[hs,List.drop_eq_nil_of_le (by omega)]
    exact Runs.aP aj mixed [0,2] (fin H hH E hE' S hS' x l ty g) trivial (iR l ty _ _ _) rfl fun g=>aH.ret (zr l ty _ _ _ g) rfl
end w
namespace n
def M1 (a:Option Addr):List (Option SV):=aD 49 0 [(1,.o (.a (.v (.slice a 0 0)))),(5,.o (.a (.ptr 0 0))),(6,.o (.a (.ptr 1 0)))]
def M2 (a:Option Addr) (j:Int):List (Option SV):=aD 49 0 [(1,.o (.a (.v (.slice a 0 0)))),(5,.o (.a (.ptr 0 0))),(6,.o (.a (.ptr 1 0))),(25,.o (.a (aG .i64 0))),(26,.o (.a (aG .i64 j)))]
def M3 (a:Option Addr):List (Option SV):=aD 49 0 [(6,.o (.a (.ptr 1 0)))]
def MR (a:Option Addr) (f:Bool) (e:Int):List (Option SV):=aD 49 0 [(6,.o (.a (.ptr 0 0))),(7,.o (.a (.v (.bool f)))),(8,.o (.a (aG .i64 e)))]
def m1 (x:B32):List Blk:=[⟨true,24,.lit (ay.row x)⟩,⟨true,24,.lit (ay.row zB)⟩]
def mR (z:B32):List Blk:=[⟨true,24,.lit (ay.row z)⟩]
theorem i1 (x:B32) (a:Option Addr):oI (M1 a) (m1 x):=by delta oI;kernel_rfl
theorem i2 (x:B32) (a:Option Addr) (j:Int):oI (M2 a j) (m1 x):=by delta oI;kernel_rfl
theorem i3 (x:B32) (a:Option Addr):oI (M3 a) (m1 x):=by delta oI;kernel_rfl
theorem iR (a:Option Addr) (f:Bool) (e:Int) (z:B32):oI (MR a f e) (mR z):=by delta oI;kernel_rfl
theorem zr (a:Option Addr) (f:Bool) (e:Int) (z:B32) (g:Nat→SV):eRes tys (fill g 0 (MR a f e)) (fun k=>(mR z)[k]?) fn.results.toList=some [.g (ay.row z),.a (fH f),.a (aG .i64 e)]:=by kernel_rfl
section
variable (H:Nd→Nd→B32) (hH:H=hV) (E:B32) (hE':E=hE) (S:Nd→B32) (hS':S=hS)
theorem oth (root x:B32) (a:Option Addr) (h:B32) (e:Int):oN [2] (Γ H hH E hE' S hS') 100 body (aK fn [ay.enc root,.o (.a (.v (.slice a 0 0))),ay.enc x]) [] [(14,[.s (hsS (h,e))]),(18,[.b false]),(22,[.b true])] .ret (MR a false 3) (mR zB) [hsS (E,0)=hsS (h,e),(e !=0)=false,(!eqL h.to root.to)=true]:=by delta oN;kernel_rfl
theorem pre (root x:B32) (a:Option Addr) (h:B32) (e:Int):oN [1,2] (Γ H hH E hE' S hS') 100 (eD 4 body) (aK fn [ay.enc root,.o (.a (.v (.slice a 0 0))),ay.enc x]) [] [(14,[.s (hsS (h,e))]),(18,[.b false]),(22,[.b false])] .normal (M1 a) (m1 x) [hsS (E,0)=hsS (h,e),(e !=0)=false,(!eqL h.to root.to)=false]:=by delta oN;kernel_rfl
theorem a1 (x:B32) (a:Option Addr) (g:Nat→SV):oX (Γ H hH E hE' S hS') 100 A1 (fill g 0 (M1 a )) (m1 x) [] .normal (M2 a 0) (m1 x) []:=by delta oX;kernel_rfl
theorem out (x:B32) (a:Option Addr) (g:Nat→SV):oX (Γ H hH E hE' S hS') 100 L (fill g 0 (M2 a 0)) (m1 x) [] (.exit 0) (M3 a) (m1 x) []:=by delta oX;kernel_rfl
theorem fin (x:B32) (a:Option Addr) (g:Nat→SV):oN [1] (Γ H hH E hE' S hS') 100 D (fill g 0 (M3 a )) (m1 x) [] .ret (MR a false 0) (mR zB) []:=by delta oN;kernel_rfl
end
theorem run (H:Nd→Nd→B32) (hH:H=hV) (E:B32) (hE':E=hE) (S:Nd→B32) (hS':S=hS) (root x:B32) (a:Option Addr):aF Tryd.prog GT 0 body (aK fn [ay.enc root,.o (.a (.v (.slice a 0 0))),ay.enc x]) [] (aH tys fn (bJ (fdS (nL H E S root [] x)) .none)):=by
 show aF _ _ _ _ _ _ (aH tys fn (bJ (fdS (bif !(eqL E.to root.to) then (zB,false,3) else (zB,false,0))) .none))
 cases hr:(!eqL E.to root.to) with
 | true=>
  rw[cond_true]
  exact Runs.aP aj mixed [2] (oth H hH E hE' S hS' root x a E 0) ⟨rfl,rfl,hr,trivial⟩ (iR a _ _ _) rfl fun g=>aH.ret (zr a _ _ _ g) rfl
 | false=>
  rw[cond_false]
  refine Runs.lJ aj mixed 4 [1,2] (pre H hH E hE' S hS' root x a E 0) ⟨rfl,rfl,hr,trivial⟩ (i1 x a ) rfl fun g=> ?_
  rw[dJ]
  refine Runs.seq (Runs.seq (Runs.au aj mixed (a1 H hH E hE' S hS' x a g) trivial (i2 x a _) rfl fun g=> ?_))
  refine Runs.block ?_
  refine Runs.dA (fun(_:Unit)=>M2 a 0) (fun _=>m1 x ) (fun _=>True) (fun _=>0) ?_ () trivial g
  rintro _ g _
  refine Runs.au aj mixed (out H hH E hE' S hS' x a g) trivial (i3 x a ) rfl fun g=> ?_
  show aF _ _ _ _ _ _ _
  exact Runs.aP aj mixed [1] (fin H hH E hE' S hS' x a g) trivial (iR a _ _ _) rfl fun g=>aH.ret (zr a _ _ _ g) rfl
end n
def spec (H:Nd→Nd→B32) (E:B32) (S:Nd→B32):List aU→Option (SV × dH × Cst)
 | [.val r,.winv _ vs n ty,.val z]=>match ay.dec r,ay.dec z with
  | some root,some x=>some (fdS (nL H E S root (ak vs) x),.none,[vs=ah (ak vs),(ak vs).length=n,n<bK,bg (ak vs),BOk x])
  | _,_=>none
 | [.val r,.val (.o (.a (.v (.slice a 0 0)))),.val z]=>match ay.dec r,ay.dec z with
  | some root,some x=>some (fdS (nL H E S root [] x),.none,[])
  | _,_=>none
 | _=>none
noncomputable def con (H:Nd→Nd→B32) (hH:H=hV) (E:B32) (hE':E=hE) (S:Nd→B32) (hS':S=hS):Con Tryd.prog GT:=Con.parts aj 38 fn Tryd.func38 (by kernel_rfl) (c:=body) (by kernel_rfl) [.val,.winv 65,.val] (spec H E S)
 (fun ps r e p h hp=>by
  unfold spec at h
  split at h
  ·split at h<;>cases h
   exact⟨rfl,fun b hb=>by simp only[bf,aU.blk,List.append_nil,List.nil_append,List.mem_singleton] at hb;rw[hb]⟩
  ·split at h<;>cases h
   exact⟨rfl,fun b hb=>by simp[bf,aU.blk] at hb⟩
  ·cases h)
 (fun ps r e p cap h hp hi=>by
  unfold spec at h
  split at h
  ·rename_i r0 s0 vs n ty z0
   split at h<;>cases h
   rename_i root x k1 k2
   have e1:=ay.ok _ _ k1
   have e2:=ay.ok _ _ k2
   subst e1
   subst e2
   obtain⟨p1,p2,p3,p4,p5,_⟩:=hp
   have q:=w.run H hH E hE' S hS' root x (ak vs) n (cap 0) ty p2 p3 hi.2.1.2 p4 p5
   rw[←p1] at q
   exact q
  ·rename_i r0 a z0
   split at h<;>cases h
   rename_i root x k1 k2
   have e1:=ay.ok _ _ k1
   have e2:=ay.ok _ _ k2
   subst e1
   subst e2
   exact n.run H hH E hE' S hS' root x a
  ·cases h)
end rfd
end Go.Proofs.YtdccehmekkcheaaDoor
