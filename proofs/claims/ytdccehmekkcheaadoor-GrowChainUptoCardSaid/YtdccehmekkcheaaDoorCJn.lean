/- Package beaconref01: Join of lists of slices: walks, contracts. -/
import Derived.Test.YtdccehmekkcheaaDoorCFo
import Derived.Test.YtdccehmekkcheaaDoorCMY
import Derived.Test.YtdccehmekkcheaaDoorCLst
set_option linter.unusedSimpArgs false
set_option linter.unusedVariables false
namespace Go.Proofs.YtdccehmekkcheaaDoor
open Go Go.Eng Go.RowKit
set_option maxRecDepth 100000
theorem oD (n:Nat) (h:n≤140737488355328):Room Tryd.prog 5 n:=by
 have h1:(Tryd.prog.info? 5).map (·.bytes)=some 1:=by kernel_rfl
 cases hq:Tryd.prog.info? 5 with
 | none=>rw[hq] at h1;cases h1
 | some j=>
  rw[hq] at h1
  have:j.bytes=1:=by simpa using h1
  exact⟨j,hq,by rw[this];omega,by omega⟩
namespace jn
noncomputable abbrev fn:=Tryd.f57
noncomputable def body:Code:=d9 fn
noncomputable def Γ:Cons Tryd.prog S3.Gs:=[]
noncomputable def A14:Code:=cs1 (cs1 (bM 2 body))
noncomputable def L:Code:=cL (cB (cs2 (cs1 (bM 2 body))))
noncomputable def D:Code:=cs2 (bM 2 body)
theorem dJ:bM 2 body= .seq (.seq A14 (.block 0 (.loop L))) D:=by kernel_rfl
namespace ww
section
variable (y1:List Int) (n1:Nat) (t1:TypeId) (y2:List Int) (n2:Nat) (t2:TypeId) (ty:TypeId)
def args:List Blk:=[⟨false,ty,.lit [.slg 1 n1,.slg 2 n2]⟩,⟨false,t1,.pre .u8 y1⟩,⟨false,t2,.pre .u8 y2⟩]
def aT:List Blk:=args y1 n1 t1 y2 n2 t2 ty
def mem (D:List Int) (lo:Nat) (hi:Option Nat):List Blk:=aT y1 n1 t1 y2 n2 t2 ty++[⟨true,5,.gro .u8 D lo hi⟩]
end
def M0:List (Option SV):=aD 18 0 [(0,.o (.a (.slc 0 0 2 2))),(3,.o (.a (.v (.slice none 0 0))))]
def M1:List (Option SV):=aD 18 0 [(0,.o (.a (.slc 0 0 2 2))),(3,.o (.a (.v (.slice none 0 0)))),(6,.o (.a (.v (.int .i64 2)))),(7,.o (.a (.v (.int .i64 0))))]
def M2 (i:Int) (n:Nat):List (Option SV):=aD 18 0 [(0,.o (.a (.slc 0 0 2 2))),(3,.o (.a (.slg 3 n))),(6,.o (.a (.v (.int .i64 2)))),(7,.o (.a (.v (.int .i64 i))))]
def MZ (n:Nat):List (Option SV):=aD 18 0 [(3,.o (.a (.slg 3 n)))]
section
variable (y1:List Int) (n1:Nat) (t1:TypeId) (y2:List Int) (n2:Nat) (t2:TypeId) (ty:TypeId)
theorem fO:oI M0 (aT y1 n1 t1 y2 n2 t2 ty):=by delta oI;kernel_rfl
theorem dh:oI M1 (aT y1 n1 t1 y2 n2 t2 ty):=by delta oI;kernel_rfl
theorem gG (D:List Int) (n lo:Nat) (hi:Option Nat) (i:Int):oI (M2 i n) (mem y1 n1 t1 y2 n2 t2 ty D lo hi):=by delta oI;kernel_rfl
theorem iM (D:List Int) (n lo:Nat) (hi:Option Nat):oI (MZ n) (mem y1 n1 t1 y2 n2 t2 ty D lo hi):=by delta oI;kernel_rfl
theorem s0:oX Γ 100 (eD 2 body) (aK fn [.o (.a (.slc 0 0 2 2))]) (args y1 n1 t1 y2 n2 t2 ty) [] .normal M0 (aT y1 n1 t1 y2 n2 t2 ty) []:=by delta oX;kernel_rfl
theorem a14 (g:Nat→SV):oX Γ 100 A14 (fill g 0 (M0)) (aT y1 n1 t1 y2 n2 t2 ty) [] .normal M1 (aT y1 n1 t1 y2 n2 t2 ty) []:=by delta oX;kernel_rfl
theorem i0 (g:Nat→SV):oX Γ 100 L (fill g 0 (M1)) (aT y1 n1 t1 y2 n2 t2 ty) [] .normal (M2 1 n1) (mem y1 n1 t1 y2 n2 t2 ty ((y1.drop 0).take n1) n1 none) [0+n1≤y1.length,0<n1,Room Tryd.prog 5 n1]:=by delta oX;kernel_rfl
theorem i1 (D:List Int) (n:Nat) (g:Nat→SV):oX Γ 100 L (fill g 0 (M2 1 n)) (mem y1 n1 t1 y2 n2 t2 ty D (n+n2) none) [] .normal (M2 2 (n+n2)) (mem y1 n1 t1 y2 n2 t2 ty (D++((y2.drop 0).take n2)) (n+n2) none) [0+n2≤y2.length,n=D.length,n+n2≤n+n2]:=by delta oX;kernel_rfl
theorem j1 (D:List Int) (n lo:Nat) (g:Nat→SV):oN [0,1,2,4] Γ 100 L (fill g 0 (M2 1 n)) (mem y1 n1 t1 y2 n2 t2 ty D lo (some (n+n2))) [] .normal (M2 2 (n+n2)) (mem y1 n1 t1 y2 n2 t2 ty (D++((y2.drop 0).take n2)) (n+n2) none) [0+n2≤y2.length,n=D.length,n+n2≤n+n2,Room Tryd.prog 5 (n+n2)]:=by delta oN;kernel_rfl
theorem hz (D:List Int) (n lo:Nat) (g:Nat→SV):oX Γ 100 L (fill g 0 (M2 2 n)) (mem y1 n1 t1 y2 n2 t2 ty D lo none) [] (.exit 0) (MZ n) (mem y1 n1 t1 y2 n2 t2 ty D lo none) []:=by delta oX;kernel_rfl
noncomputable def fin (D:List Int) (n lo:Nat) (g:Nat→SV):St:=outS Γ tys 100 jn.D ⟨fill g 0 (MZ n),mem y1 n1 t1 y2 n2 t2 ty D lo none,[]⟩
theorem d (D:List Int) (n lo:Nat) (g:Nat→SV):exec Γ tys 100 jn.D ⟨fill g 0 (MZ n),mem y1 n1 t1 y2 n2 t2 ty D lo none,[]⟩=some (.ret,⟨(fin y1 n1 t1 y2 n2 t2 ty D n lo g).tm,(fin y1 n1 t1 y2 n2 t2 ty D n lo g).mem,[]⟩,[]):=by kernel_rfl
theorem res (D:List Int) (n lo:Nat) (g:Nat→SV):eRes tys (fin y1 n1 t1 y2 n2 t2 ty D n lo g).tm (fun k=>(fin y1 n1 t1 y2 n2 t2 ty D n lo g).mem[k]?) fn.results.toList=some [.a (.slg 3 n)]:=by kernel_rfl
theorem row (D:List Int) (n lo:Nat) (g:Nat→SV):(fin y1 n1 t1 y2 n2 t2 ty D n lo g).mem[3]? =some ⟨true,5,.gro .u8 D lo none⟩:=by kernel_rfl
end
def Mx (n1:Nat) (n2:Nat):Nat→List (Option SV)
 | 0=>M1
 | 1=>M2 1 (n1)
 | _=>M2 2 (n1+n2)
def Bx (y1:List Int) (n1:Nat) (t1:TypeId) (y2:List Int) (n2:Nat) (t2:TypeId) (ty:TypeId):Nat→List Blk
 | 0=>aT y1 n1 t1 y2 n2 t2 ty
 | 1=>mem y1 n1 t1 y2 n2 t2 ty (((y1.drop 0).take n1)) (n1) none
 | _=>mem y1 n1 t1 y2 n2 t2 ty (((y1.drop 0).take n1)++((y2.drop 0).take n2)) (n1+n2) none
theorem walk (y1:List Int) (n1:Nat) (t1:TypeId) (y2:List Int) (n2:Nat) (t2:TypeId) (ty:TypeId) (h1:y1.length=n1) (h2:y2.length=n2) (h0:0<n1) (hT:(gH [y1,y2]).length≤140737488355328):
  aF Tryd.prog S3.Gs 3 body (aK fn [.o (.a (.slc 0 0 2 2))]) (args y1 n1 t1 y2 n2 t2 ty ) (aH tys fn (bJ (.o (.a (.slg 0 (gH [y1,y2]).length))) (.new 5 (.gro .u8 (gH [y1,y2]) (gH [y1,y2]).length none)))):=by
 have hE:(gH [y1,y2]).length=n1+n2:=by simp only[gH,List.length_append,List.length_nil];omega
 have el1:((y1.drop 0).take n1).length=n1:=by rw[dt0 y1 n1 h1];exact h1
 have el2:((y2.drop 0).take n2).length=n2:=by rw[dt0 y2 n2 h2];exact h2
 have hD:((y1.drop 0).take n1)++((y2.drop 0).take n2)=gH [y1,y2]:=by simp only[gH,dt0 y1 n1 h1,dt0 y2 n2 h2,List.append_assoc,List.append_nil]
 refine Runs.dz aj mixed 2 (s0 y1 n1 t1 y2 n2 t2 ty ) trivial (fO y1 n1 t1 y2 n2 t2 ty ) rfl fun g=> ?_
 rw[dJ]
 refine Runs.seq (Runs.seq (Runs.au aj mixed (a14 y1 n1 t1 y2 n2 t2 ty g) trivial (dh y1 n1 t1 y2 n2 t2 ty ) rfl fun g=> ?_))
 refine Runs.block ?_
 refine Runs.dA (Mx n1 n2 ) (Bx y1 n1 t1 y2 n2 t2 ty ) (fun i=>i≤2) (fun i=>2-i) ?_ 0 (by omega) g
 intro i g hi
 obtain rfl | rfl | rfl:i=0∨i=1∨i=2:=by omega
 ·exact Runs.au aj mixed (i0 y1 n1 t1 y2 n2 t2 ty g) ⟨by omega,h0,oD _ (by omega),trivial⟩ (gG y1 n1 t1 y2 n2 t2 ty _ _ _ _ _) rfl fun g=>⟨1,g,rfl,rfl,by omega,by omega⟩
 ·refine Runs.room 3 (n1+n2) (own:=true) (ty:=5) (kd:= .u8) (xs:=((y1.drop 0).take n1)) (lo:=n1) rfl ?_ ?_
  ·exact Runs.au aj mixed (i1 y1 n1 t1 y2 n2 t2 ty (((y1.drop 0).take n1)) (n1) g) ⟨by omega,(by simp only[List.length_append,List.length_nil,el1,el2];try omega),by omega,trivial⟩ (gG y1 n1 t1 y2 n2 t2 ty _ _ _ _ _) rfl fun g=>⟨2,g,rfl,rfl,by omega,by omega⟩
  ·exact Runs.aP aj mixed _ (j1 y1 n1 t1 y2 n2 t2 ty (((y1.drop 0).take n1)) (n1) (n1) g) ⟨by omega,(by simp only[List.length_append,List.length_nil,el1,el2];try omega),by omega,oD _ (by omega),trivial⟩ (gG y1 n1 t1 y2 n2 t2 ty _ _ _ _ _) rfl fun g=>⟨2,g,rfl,rfl,by omega,by omega⟩
 ·refine Runs.au aj mixed (hz y1 n1 t1 y2 n2 t2 ty (((y1.drop 0).take n1)++((y2.drop 0).take n2)) (n1+n2) (n1+n2) g) trivial (iM y1 n1 t1 y2 n2 t2 ty _ _ _ _) rfl fun g=> ?_
  refine Runs.eB aj mixed (d y1 n1 t1 y2 n2 t2 ty _ _ _ g) trivial (aH.ret (res y1 n1 t1 y2 n2 t2 ty _ _ _ g) ⟨3,?_,?_⟩)
  ·rw[hE]
   rfl
  ·rw[row,hD,hE]
noncomputable def D:Dec Tryd.prog LstA:=Dec.listV Tryd.prog .u8 [true,true] (fun ls=> .o (.a (.slg 0 (gH ls).length))) (fun ls=> .new 5 (.gro .u8 (gH ls) (gH ls).length none)) (fun ls=>[0<(ls.headD []).length,(gH ls).length≤140737488355328]) (fun ls=>rfl)
noncomputable def con:Con Tryd.prog S3.Gs:=Con.hand aj 57 fn Tryd.func57 (by kernel_rfl) (c:=body) (by kernel_rfl) D
 (fun x hc hi=>by
  obtain⟨its,m,ty⟩:=x
  obtain⟨⟨hs,hn,hy⟩,hv⟩:=hi
  have hp:=(aV hc).2
  simp only at hs hn hy hp hv
  obtain⟨a1,t1,rfl,q1⟩:=shp_w hs
  obtain⟨a2,t2,rfl,q2⟩:=shp_w q1
  obtain rfl:=shp_n q2
  have hn:m=2:=hn
  subst hn
  have h1:=hy a1 (by simp[jv])
  exact walk a1.ys a1.n a1.ty a2.ys a2.n a2.ty ty (hy a1 (by simp[jv])) (hy a2 (by simp[jv])) (by have:=hp.1;rw[←h1];exact this) hp.2.1)
end ww
namespace www
section
variable (y1:List Int) (n1:Nat) (t1:TypeId) (y2:List Int) (n2:Nat) (t2:TypeId) (y3:List Int) (n3:Nat) (t3:TypeId) (ty:TypeId)
def args:List Blk:=[⟨false,ty,.lit [.slg 1 n1,.slg 2 n2,.slg 3 n3]⟩,⟨false,t1,.pre .u8 y1⟩,⟨false,t2,.pre .u8 y2⟩,⟨false,t3,.pre .u8 y3⟩]
def aT:List Blk:=args y1 n1 t1 y2 n2 t2 y3 n3 t3 ty
def mem (D:List Int) (lo:Nat) (hi:Option Nat):List Blk:=aT y1 n1 t1 y2 n2 t2 y3 n3 t3 ty++[⟨true,5,.gro .u8 D lo hi⟩]
end
def M0:List (Option SV):=aD 18 0 [(0,.o (.a (.slc 0 0 3 3))),(3,.o (.a (.v (.slice none 0 0))))]
def M1:List (Option SV):=aD 18 0 [(0,.o (.a (.slc 0 0 3 3))),(3,.o (.a (.v (.slice none 0 0)))),(6,.o (.a (.v (.int .i64 3)))),(7,.o (.a (.v (.int .i64 0))))]
def M2 (i:Int) (n:Nat):List (Option SV):=aD 18 0 [(0,.o (.a (.slc 0 0 3 3))),(3,.o (.a (.slg 4 n))),(6,.o (.a (.v (.int .i64 3)))),(7,.o (.a (.v (.int .i64 i))))]
def MZ (n:Nat):List (Option SV):=aD 18 0 [(3,.o (.a (.slg 4 n)))]
section
variable (y1:List Int) (n1:Nat) (t1:TypeId) (y2:List Int) (n2:Nat) (t2:TypeId) (y3:List Int) (n3:Nat) (t3:TypeId) (ty:TypeId)
theorem fO:oI M0 (aT y1 n1 t1 y2 n2 t2 y3 n3 t3 ty):=by delta oI;kernel_rfl
theorem dh:oI M1 (aT y1 n1 t1 y2 n2 t2 y3 n3 t3 ty):=by delta oI;kernel_rfl
theorem gG (D:List Int) (n lo:Nat) (hi:Option Nat) (i:Int):oI (M2 i n) (mem y1 n1 t1 y2 n2 t2 y3 n3 t3 ty D lo hi):=by delta oI;kernel_rfl
theorem iM (D:List Int) (n lo:Nat) (hi:Option Nat):oI (MZ n) (mem y1 n1 t1 y2 n2 t2 y3 n3 t3 ty D lo hi):=by delta oI;kernel_rfl
theorem s0:oX Γ 100 (eD 2 body) (aK fn [.o (.a (.slc 0 0 3 3))]) (args y1 n1 t1 y2 n2 t2 y3 n3 t3 ty) [] .normal M0 (aT y1 n1 t1 y2 n2 t2 y3 n3 t3 ty) []:=by delta oX;kernel_rfl
theorem a14 (g:Nat→SV):oX Γ 100 A14 (fill g 0 (M0)) (aT y1 n1 t1 y2 n2 t2 y3 n3 t3 ty) [] .normal M1 (aT y1 n1 t1 y2 n2 t2 y3 n3 t3 ty) []:=by delta oX;kernel_rfl
theorem i0 (g:Nat→SV):oX Γ 100 L (fill g 0 (M1)) (aT y1 n1 t1 y2 n2 t2 y3 n3 t3 ty) [] .normal (M2 1 n1) (mem y1 n1 t1 y2 n2 t2 y3 n3 t3 ty ((y1.drop 0).take n1) n1 none) [0+n1≤y1.length,0<n1,Room Tryd.prog 5 n1]:=by delta oX;kernel_rfl
theorem i1 (D:List Int) (n:Nat) (g:Nat→SV):oX Γ 100 L (fill g 0 (M2 1 n)) (mem y1 n1 t1 y2 n2 t2 y3 n3 t3 ty D (n+n2) none) [] .normal (M2 2 (n+n2)) (mem y1 n1 t1 y2 n2 t2 y3 n3 t3 ty (D++((y2.drop 0).take n2)) (n+n2) none) [0+n2≤y2.length,n=D.length,n+n2≤n+n2]:=by delta oX;kernel_rfl
theorem j1 (D:List Int) (n lo:Nat) (g:Nat→SV):oN [0,1,2,3,5] Γ 100 L (fill g 0 (M2 1 n)) (mem y1 n1 t1 y2 n2 t2 y3 n3 t3 ty D lo (some (n+n2))) [] .normal (M2 2 (n+n2)) (mem y1 n1 t1 y2 n2 t2 y3 n3 t3 ty (D++((y2.drop 0).take n2)) (n+n2) none) [0+n2≤y2.length,n=D.length,n+n2≤n+n2,Room Tryd.prog 5 (n+n2)]:=by delta oN;kernel_rfl
theorem i2 (D:List Int) (n:Nat) (g:Nat→SV):oX Γ 100 L (fill g 0 (M2 2 n)) (mem y1 n1 t1 y2 n2 t2 y3 n3 t3 ty D (n+n3) none) [] .normal (M2 3 (n+n3)) (mem y1 n1 t1 y2 n2 t2 y3 n3 t3 ty (D++((y3.drop 0).take n3)) (n+n3) none) [0+n3≤y3.length,n=D.length,n+n3≤n+n3]:=by delta oX;kernel_rfl
theorem j2 (D:List Int) (n lo:Nat) (g:Nat→SV):oN [0,1,2,3,5] Γ 100 L (fill g 0 (M2 2 n)) (mem y1 n1 t1 y2 n2 t2 y3 n3 t3 ty D lo (some (n+n3))) [] .normal (M2 3 (n+n3)) (mem y1 n1 t1 y2 n2 t2 y3 n3 t3 ty (D++((y3.drop 0).take n3)) (n+n3) none) [0+n3≤y3.length,n=D.length,n+n3≤n+n3,Room Tryd.prog 5 (n+n3)]:=by delta oN;kernel_rfl
theorem hz (D:List Int) (n lo:Nat) (g:Nat→SV):oX Γ 100 L (fill g 0 (M2 3 n)) (mem y1 n1 t1 y2 n2 t2 y3 n3 t3 ty D lo none) [] (.exit 0) (MZ n) (mem y1 n1 t1 y2 n2 t2 y3 n3 t3 ty D lo none) []:=by delta oX;kernel_rfl
noncomputable def fin (D:List Int) (n lo:Nat) (g:Nat→SV):St:=outS Γ tys 100 jn.D ⟨fill g 0 (MZ n),mem y1 n1 t1 y2 n2 t2 y3 n3 t3 ty D lo none,[]⟩
theorem d (D:List Int) (n lo:Nat) (g:Nat→SV):exec Γ tys 100 jn.D ⟨fill g 0 (MZ n),mem y1 n1 t1 y2 n2 t2 y3 n3 t3 ty D lo none,[]⟩=some (.ret,⟨(fin y1 n1 t1 y2 n2 t2 y3 n3 t3 ty D n lo g).tm,(fin y1 n1 t1 y2 n2 t2 y3 n3 t3 ty D n lo g).mem,[]⟩,[]):=by kernel_rfl
theorem res (D:List Int) (n lo:Nat) (g:Nat→SV):eRes tys (fin y1 n1 t1 y2 n2 t2 y3 n3 t3 ty D n lo g).tm (fun k=>(fin y1 n1 t1 y2 n2 t2 y3 n3 t3 ty D n lo g).mem[k]?) fn.results.toList=some [.a (.slg 4 n)]:=by kernel_rfl
theorem row (D:List Int) (n lo:Nat) (g:Nat→SV):(fin y1 n1 t1 y2 n2 t2 y3 n3 t3 ty D n lo g).mem[4]? =some ⟨true,5,.gro .u8 D lo none⟩:=by kernel_rfl
end
def Mx (n1:Nat) (n2:Nat) (n3:Nat):Nat→List (Option SV)
 | 0=>M1
 | 1=>M2 1 (n1)
 | 2=>M2 2 (n1+n2)
 | _=>M2 3 (n1+n2+n3)
def Bx (y1:List Int) (n1:Nat) (t1:TypeId) (y2:List Int) (n2:Nat) (t2:TypeId) (y3:List Int) (n3:Nat) (t3:TypeId) (ty:TypeId):Nat→List Blk
 | 0=>aT y1 n1 t1 y2 n2 t2 y3 n3 t3 ty
 | 1=>mem y1 n1 t1 y2 n2 t2 y3 n3 t3 ty (((y1.drop 0).take n1)) (n1) none
 | 2=>mem y1 n1 t1 y2 n2 t2 y3 n3 t3 ty (((y1.drop 0).take n1)++((y2.drop 0).take n2)) (n1+n2) none
 | _=>mem y1 n1 t1 y2 n2 t2 y3 n3 t3 ty (((y1.drop 0).take n1)++((y2.drop 0).take n2)++((y3.drop 0).take n3)) (n1+n2+n3) none
theorem walk (y1:List Int) (n1:Nat) (t1:TypeId) (y2:List Int) (n2:Nat) (t2:TypeId) (y3:List Int) (n3:Nat) (t3:TypeId) (ty:TypeId) (h1:y1.length=n1) (h2:y2.length=n2) (h3:y3.length=n3) (h0:0<n1) (hT:(gH [y1,y2,y3]).length≤140737488355328):
  aF Tryd.prog S3.Gs 4 body (aK fn [.o (.a (.slc 0 0 3 3))]) (args y1 n1 t1 y2 n2 t2 y3 n3 t3 ty ) (aH tys fn (bJ (.o (.a (.slg 0 (gH [y1,y2,y3]).length))) (.new 5 (.gro .u8 (gH [y1,y2,y3]) (gH [y1,y2,y3]).length none)))):=by
 have hE:(gH [y1,y2,y3]).length=n1+n2+n3:=by simp only[gH,List.length_append,List.length_nil];omega
 have el1:((y1.drop 0).take n1).length=n1:=by rw[dt0 y1 n1 h1];exact h1
 have el2:((y2.drop 0).take n2).length=n2:=by rw[dt0 y2 n2 h2];exact h2
 have el3:((y3.drop 0).take n3).length=n3:=by rw[dt0 y3 n3 h3];exact h3
 have hD:((y1.drop 0).take n1)++((y2.drop 0).take n2)++((y3.drop 0).take n3)=gH [y1,y2,y3]:=by simp only[gH,dt0 y1 n1 h1,dt0 y2 n2 h2,dt0 y3 n3 h3,List.append_assoc,List.append_nil]
 refine Runs.dz aj mixed 2 (s0 y1 n1 t1 y2 n2 t2 y3 n3 t3 ty ) trivial (fO y1 n1 t1 y2 n2 t2 y3 n3 t3 ty ) rfl fun g=> ?_
 rw[dJ]
 refine Runs.seq (Runs.seq (Runs.au aj mixed (a14 y1 n1 t1 y2 n2 t2 y3 n3 t3 ty g) trivial (dh y1 n1 t1 y2 n2 t2 y3 n3 t3 ty ) rfl fun g=> ?_))
 refine Runs.block ?_
 refine Runs.dA (Mx n1 n2 n3 ) (Bx y1 n1 t1 y2 n2 t2 y3 n3 t3 ty ) (fun i=>i≤3) (fun i=>3-i) ?_ 0 (by omega) g
 intro i g hi
 obtain rfl | rfl | rfl | rfl:i=0∨i=1∨i=2∨i=3:=by omega
 ·exact Runs.au aj mixed (i0 y1 n1 t1 y2 n2 t2 y3 n3 t3 ty g) ⟨by omega,h0,oD _ (by omega),trivial⟩ (gG y1 n1 t1 y2 n2 t2 y3 n3 t3 ty _ _ _ _ _) rfl fun g=>⟨1,g,rfl,rfl,by omega,by omega⟩
 ·refine Runs.room 4 (n1+n2) (own:=true) (ty:=5) (kd:= .u8) (xs:=((y1.drop 0).take n1)) (lo:=n1) rfl ?_ ?_
  ·exact Runs.au aj mixed (i1 y1 n1 t1 y2 n2 t2 y3 n3 t3 ty (((y1.drop 0).take n1)) (n1) g) ⟨by omega,(by simp only[List.length_append,List.length_nil,el1,el2,el3];try omega),by omega,trivial⟩ (gG y1 n1 t1 y2 n2 t2 y3 n3 t3 ty _ _ _ _ _) rfl fun g=>⟨2,g,rfl,rfl,by omega,by omega⟩
  ·exact Runs.aP aj mixed _ (j1 y1 n1 t1 y2 n2 t2 y3 n3 t3 ty (((y1.drop 0).take n1)) (n1) (n1) g) ⟨by omega,(by simp only[List.length_append,List.length_nil,el1,el2,el3];try omega),by omega,oD _ (by omega),trivial⟩ (gG y1 n1 t1 y2 n2 t2 y3 n3 t3 ty _ _ _ _ _) rfl fun g=>⟨2,g,rfl,rfl,by omega,by omega⟩
 ·refine Runs.room 4 (n1+n2+n3) (own:=true) (ty:=5) (kd:= .u8) (xs:=((y1.drop 0).take n1)++((y2.drop 0).take n2)) (lo:=n1+n2) rfl ?_ ?_
  ·exact Runs.au aj mixed (i2 y1 n1 t1 y2 n2 t2 y3 n3 t3 ty (((y1.drop 0).take n1)++((y2.drop 0).take n2)) (n1+n2) g) ⟨by omega,(by simp only[List.length_append,List.length_nil,el1,el2,el3];try omega),by omega,trivial⟩ (gG y1 n1 t1 y2 n2 t2 y3 n3 t3 ty _ _ _ _ _) rfl fun g=>⟨3,g,rfl,rfl,by omega,by omega⟩
  ·exact Runs.aP aj mixed _ (j2 y1 n1 t1 y2 n2 t2 y3 n3 t3 ty (((y1.drop 0).take n1)++((y2.drop 0).take n2)) (n1+n2) (n1+n2) g) ⟨by omega,(by simp only[List.length_append,List.length_nil,el1,el2,el3];try omega),by omega,oD _ (by omega),trivial⟩ (gG y1 n1 t1 y2 n2 t2 y3 n3 t3 ty _ _ _ _ _) rfl fun g=>⟨3,g,rfl,rfl,by omega,by omega⟩
 ·refine Runs.au aj mixed (hz y1 n1 t1 y2 n2 t2 y3 n3 t3 ty (((y1.drop 0).take n1)++((y2.drop 0).take n2)++((y3.drop 0).take n3)) (n1+n2+n3) (n1+n2+n3) g) trivial (iM y1 n1 t1 y2 n2 t2 y3 n3 t3 ty _ _ _ _) rfl fun g=> ?_
  refine Runs.eB aj mixed (d y1 n1 t1 y2 n2 t2 y3 n3 t3 ty _ _ _ g) trivial (aH.ret (res y1 n1 t1 y2 n2 t2 y3 n3 t3 ty _ _ _ g) ⟨4,?_,?_⟩)
  ·rw[hE]
   rfl
  ·rw[row,hD,hE]
noncomputable def D:Dec Tryd.prog LstA:=Dec.listV Tryd.prog .u8 [true,true,true] (fun ls=> .o (.a (.slg 0 (gH ls).length))) (fun ls=> .new 5 (.gro .u8 (gH ls) (gH ls).length none)) (fun ls=>[0<(ls.headD []).length,(gH ls).length≤140737488355328]) (fun ls=>rfl)
noncomputable def con:Con Tryd.prog S3.Gs:=Con.hand aj 57 fn Tryd.func57 (by kernel_rfl) (c:=body) (by kernel_rfl) D
 (fun x hc hi=>by
  obtain⟨its,m,ty⟩:=x
  obtain⟨⟨hs,hn,hy⟩,hv⟩:=hi
  have hp:=(aV hc).2
  simp only at hs hn hy hp hv
  obtain⟨a1,t1,rfl,q1⟩:=shp_w hs
  obtain⟨a2,t2,rfl,q2⟩:=shp_w q1
  obtain⟨a3,t3,rfl,q3⟩:=shp_w q2
  obtain rfl:=shp_n q3
  have hn:m=3:=hn
  subst hn
  have h1:=hy a1 (by simp[jv])
  exact walk a1.ys a1.n a1.ty a2.ys a2.n a2.ty a3.ys a3.n a3.ty ty (hy a1 (by simp[jv])) (hy a2 (by simp[jv])) (hy a3 (by simp[jv])) (by have:=hp.1;rw[←h1];exact this) hp.2.1)
theorem con_fr:∀m fr fr' args,con.spec m fr args=none→con.spec m fr' args=none:=fun _ _ _ _ h=>Con.hand_fr _ _ _ _ _ _ _ _ _ _ _ _ h
end www
end jn
end Go.Proofs.YtdccehmekkcheaaDoor
