/- Package beaconref01: Join of lists of slices: walks, contracts. -/
import Derived.Test.YthlmepolmemejaaGreatDoorLFo
import Derived.Test.YthlmepolmemejaaGreatDoorLME
set_option linter.unusedSimpArgs false
set_option linter.unusedVariables false
namespace Go.Proofs.YthlmepolmemejaaGreatDoor
open Go Go.Eng Go.RowKit
set_option maxRecDepth 100000
namespace jn
noncomputable abbrev fn:=Tryz.f37
noncomputable def body:Code:=bZ fn
noncomputable def Γ:Cons Tryz.prog G2:=[]
noncomputable def A14:Code:=cs1 (cs1 (bY 2 body))
noncomputable def L:Code:=cL (cB (cs2 (cs1 (bY 2 body))))
noncomputable def D:Code:=cs2 (bY 2 body)
theorem fV:bY 2 body= .seq (.seq A14 (.block 0 (.loop L))) D:=by kernel_rfl
namespace ww
section
variable (y1:List Int) (n1:Nat) (t1:TypeId) (y2:List Int) (n2:Nat) (t2:TypeId) (ty:TypeId)
def args:List Blk:=[⟨false,ty,.lit [.slg 1 n1,.slg 2 n2]⟩,⟨false,t1,.pre .u8 y1⟩,⟨false,t2,.pre .u8 y2⟩]
def aS:List Blk:=args y1 n1 t1 y2 n2 t2 ty
def mem (D:List Int) (lo:Nat) (hi:Option Nat):List Blk:=aS y1 n1 t1 y2 n2 t2 ty++[⟨true,5,.gro .u8 D lo hi⟩]
end
def M0:List (Option SV):=aJ 18 0 [(0,.o (.a (.slc 0 0 2 2))),(3,.o (.a (.v (.slice none 0 0))))]
def M1:List (Option SV):=aJ 18 0 [(0,.o (.a (.slc 0 0 2 2))),(3,.o (.a (.v (.slice none 0 0)))),(6,.o (.a (.v (.int .i64 2)))),(7,.o (.a (.v (.int .i64 0))))]
def M2 (i:Int) (n:Nat):List (Option SV):=aJ 18 0 [(0,.o (.a (.slc 0 0 2 2))),(3,.o (.a (.slg 3 n))),(6,.o (.a (.v (.int .i64 2)))),(7,.o (.a (.v (.int .i64 i))))]
def MZ (n:Nat):List (Option SV):=aJ 18 0 [(3,.o (.a (.slg 3 n)))]
section
variable (y1:List Int) (n1:Nat) (t1:TypeId) (y2:List Int) (n2:Nat) (t2:TypeId) (ty:TypeId)
theorem jy:oI M0 (aS y1 n1 t1 y2 n2 t2 ty):=by delta oI;kernel_rfl
theorem eT:oI M1 (aS y1 n1 t1 y2 n2 t2 ty):=by delta oI;kernel_rfl
theorem fu (D:List Int) (n lo:Nat) (hi:Option Nat) (i:Int):oI (M2 i n) (mem y1 n1 t1 y2 n2 t2 ty D lo hi):=by delta oI;kernel_rfl
theorem idsZ (D:List Int) (n lo:Nat) (hi:Option Nat):oI (MZ n) (mem y1 n1 t1 y2 n2 t2 ty D lo hi):=by delta oI;kernel_rfl
theorem s0:oX Γ 100 (dU 2 body) (aH fn [.o (.a (.slc 0 0 2 2))]) (args y1 n1 t1 y2 n2 t2 ty) [] .normal M0 (aS y1 n1 t1 y2 n2 t2 ty) []:=by delta oX;kernel_rfl
theorem a14 (g:Nat→SV):oX Γ 100 A14 (fill g 0 (M0)) (aS y1 n1 t1 y2 n2 t2 ty) [] .normal M1 (aS y1 n1 t1 y2 n2 t2 ty) []:=by delta oX;kernel_rfl
theorem i0 (g:Nat→SV):oX Γ 100 L (fill g 0 (M1)) (aS y1 n1 t1 y2 n2 t2 ty) [] .normal (M2 1 n1) (mem y1 n1 t1 y2 n2 t2 ty ((y1.drop 0).take n1) n1 none) [0+n1≤y1.length,0<n1,Room Tryz.prog 5 n1]:=by delta oX;kernel_rfl
theorem i1 (D:List Int) (n:Nat) (g:Nat→SV):oX Γ 100 L (fill g 0 (M2 1 n)) (mem y1 n1 t1 y2 n2 t2 ty D (n+n2) none) [] .normal (M2 2 (n+n2)) (mem y1 n1 t1 y2 n2 t2 ty (D++((y2.drop 0).take n2)) (n+n2) none) [0+n2≤y2.length,n=D.length,n+n2≤n+n2]:=by delta oX;kernel_rfl
theorem j1 (D:List Int) (n lo:Nat) (g:Nat→SV):oN [0,1,2,4] Γ 100 L (fill g 0 (M2 1 n)) (mem y1 n1 t1 y2 n2 t2 ty D lo (some (n+n2))) [] .normal (M2 2 (n+n2)) (mem y1 n1 t1 y2 n2 t2 ty (D++((y2.drop 0).take n2)) (n+n2) none) [0+n2≤y2.length,n=D.length,n+n2≤n+n2,Room Tryz.prog 5 (n+n2)]:=by delta oN;kernel_rfl
theorem hz (D:List Int) (n lo:Nat) (g:Nat→SV):oX Γ 100 L (fill g 0 (M2 2 n)) (mem y1 n1 t1 y2 n2 t2 ty D lo none) [] (.exit 0) (MZ n) (mem y1 n1 t1 y2 n2 t2 ty D lo none) []:=by delta oX;kernel_rfl
noncomputable def fin (D:List Int) (n lo:Nat) (g:Nat→SV):St:=dz Γ tys 100 jn.D ⟨fill g 0 (MZ n),mem y1 n1 t1 y2 n2 t2 ty D lo none,[]⟩
theorem d (D:List Int) (n lo:Nat) (g:Nat→SV):exec Γ tys 100 jn.D ⟨fill g 0 (MZ n),mem y1 n1 t1 y2 n2 t2 ty D lo none,[]⟩=some (.ret,⟨(fin y1 n1 t1 y2 n2 t2 ty D n lo g).tm,(fin y1 n1 t1 y2 n2 t2 ty D n lo g).mem,[]⟩,[]):=by kernel_rfl
theorem res (D:List Int) (n lo:Nat) (g:Nat→SV):eRes tys (fin y1 n1 t1 y2 n2 t2 ty D n lo g).tm (fun k=>(fin y1 n1 t1 y2 n2 t2 ty D n lo g).mem[k]?) fn.results.toList=some [.a (.slg 3 n)]:=by kernel_rfl
theorem row (D:List Int) (n lo:Nat) (g:Nat→SV):(fin y1 n1 t1 y2 n2 t2 ty D n lo g).mem[3]? =some ⟨true,5,.gro .u8 D lo none⟩:=by kernel_rfl
end
def Mx (n1:Nat) (n2:Nat):Nat→List (Option SV)
 | 0=>M1
 | 1=>M2 1 (n1)
 | _=>M2 2 (n1+n2)
def Bx (y1:List Int) (n1:Nat) (t1:TypeId) (y2:List Int) (n2:Nat) (t2:TypeId) (ty:TypeId):Nat→List Blk
 | 0=>aS y1 n1 t1 y2 n2 t2 ty
 | 1=>mem y1 n1 t1 y2 n2 t2 ty (((y1.drop 0).take n1)) (n1) none
 | _=>mem y1 n1 t1 y2 n2 t2 ty (((y1.drop 0).take n1)++((y2.drop 0).take n2)) (n1+n2) none
theorem walk (y1:List Int) (n1:Nat) (t1:TypeId) (y2:List Int) (n2:Nat) (t2:TypeId) (ty:TypeId) (h1:y1.length=n1) (h2:y2.length=n2) (h0:0<n1) (hT:(aZ [y1,y2]).length≤140737488355328):
  aK Tryz.prog G2 3 body (aH fn [.o (.a (.slc 0 0 2 2))]) (args y1 n1 t1 y2 n2 t2 ty ) (aN tys fn (bA (.o (.a (.slg 0 (aZ [y1,y2]).length))) (.new 5 (.gro .u8 (aZ [y1,y2]) (aZ [y1,y2]).length none)))):=by
 have hE:(aZ [y1,y2]).length=n1+n2:=by simp only[aZ,List.length_append,List.length_nil];omega
 have el1:((y1.drop 0).take n1).length=n1:=by rw[dt0 y1 n1 h1];exact h1
 have el2:((y2.drop 0).take n2).length=n2:=by rw[dt0 y2 n2 h2];exact h2
 have hD:((y1.drop 0).take n1)++((y2.drop 0).take n2)=aZ [y1,y2]:=by simp only[aZ,dt0 y1 n1 h1,dt0 y2 n2 h2,List.append_assoc,List.append_nil]
 refine Runs.bS ah mixed 2 (s0 y1 n1 t1 y2 n2 t2 ty ) trivial (jy y1 n1 t1 y2 n2 t2 ty ) rfl fun g=> ?_
 rw[fV]
 refine Runs.seq (Runs.seq (Runs.au ah mixed (a14 y1 n1 t1 y2 n2 t2 ty g) trivial (eT y1 n1 t1 y2 n2 t2 ty ) rfl fun g=> ?_))
 refine Runs.block ?_
 refine Runs.dS (Mx n1 n2 ) (Bx y1 n1 t1 y2 n2 t2 ty ) (fun i=>i≤2) (fun i=>2-i) ?_ 0 (by omega) g
 intro i g hi
 obtain rfl | rfl | rfl:i=0∨i=1∨i=2:=by omega
 ·exact Runs.au ah mixed (i0 y1 n1 t1 y2 n2 t2 ty g) ⟨by omega,h0,qI _ (by omega),trivial⟩ (fu y1 n1 t1 y2 n2 t2 ty _ _ _ _ _) rfl fun g=>⟨1,g,rfl,rfl,by omega,by omega⟩
 ·refine Runs.room 3 (n1+n2) (own:=true) (ty:=5) (kd:= .u8) (xs:=((y1.drop 0).take n1)) (lo:=n1) rfl ?_ ?_
  ·exact Runs.au ah mixed (i1 y1 n1 t1 y2 n2 t2 ty (((y1.drop 0).take n1)) (n1) g) ⟨by omega,(by simp only[List.length_append,List.length_nil,el1,el2];try omega),by omega,trivial⟩ (fu y1 n1 t1 y2 n2 t2 ty _ _ _ _ _) rfl fun g=>⟨2,g,rfl,rfl,by omega,by omega⟩
  ·exact Runs.bW ah mixed _ (j1 y1 n1 t1 y2 n2 t2 ty (((y1.drop 0).take n1)) (n1) (n1) g) ⟨by omega,(by simp only[List.length_append,List.length_nil,el1,el2];try omega),by omega,qI _ (by omega),trivial⟩ (fu y1 n1 t1 y2 n2 t2 ty _ _ _ _ _) rfl fun g=>⟨2,g,rfl,rfl,by omega,by omega⟩
 ·refine Runs.au ah mixed (hz y1 n1 t1 y2 n2 t2 ty (((y1.drop 0).take n1)++((y2.drop 0).take n2)) (n1+n2) (n1+n2) g) trivial (idsZ y1 n1 t1 y2 n2 t2 ty _ _ _ _) rfl fun g=> ?_
  refine Runs.aQ ah mixed (d y1 n1 t1 y2 n2 t2 ty _ _ _ g) trivial (aN.ret (res y1 n1 t1 y2 n2 t2 ty _ _ _ g) ⟨3,?_,?_⟩)
  ·rw[hE]
   rfl
  ·rw[row,hD,hE]
noncomputable def D:Dec Tryz.prog LstA:=Dec.listV Tryz.prog .u8 [true,true] (fun ls=> .o (.a (.slg 0 (aZ ls).length))) (fun ls=> .new 5 (.gro .u8 (aZ ls) (aZ ls).length none)) (fun ls=>[0<(ls.headD []).length,(aZ ls).length≤140737488355328]) (fun ls=>rfl)
noncomputable def con:Con Tryz.prog G2:=Con.hand ah 37 fn Tryz.func37 (by kernel_rfl) (c:=body) (by kernel_rfl) D
 (fun x hc hi=>by
  obtain⟨its,m,ty⟩:=x
  obtain⟨⟨hs,hn,hy⟩,hv⟩:=hi
  have hp:=(aR hc).2
  simp only at hs hn hy hp hv
  obtain⟨a1,t1,rfl,q1⟩:=oh hs
  obtain⟨a2,t2,rfl,q2⟩:=oh q1
  obtain rfl:=shp_n q2
  have hn:m=2:=hn
  subst hn
  have h1:=hy a1 (by simp[dR])
  exact walk a1.ys a1.n a1.ty a2.ys a2.n a2.ty ty (hy a1 (by simp[dR])) (hy a2 (by simp[dR])) (by have:=hp.1;rw[←h1];exact this) hp.2.1)
theorem con_fr:∀m fr fr' args,con.spec m fr args=none→con.spec m fr' args=none:=fun _ _ _ _ h=>Con.xU _ _ _ _ _ _ _ _ _ _ _ _ h
end ww
namespace www
section
variable (y1:List Int) (n1:Nat) (t1:TypeId) (y2:List Int) (n2:Nat) (t2:TypeId) (y3:List Int) (n3:Nat) (t3:TypeId) (ty:TypeId)
def args:List Blk:=[⟨false,ty,.lit [.slg 1 n1,.slg 2 n2,.slg 3 n3]⟩,⟨false,t1,.pre .u8 y1⟩,⟨false,t2,.pre .u8 y2⟩,⟨false,t3,.pre .u8 y3⟩]
def aS:List Blk:=args y1 n1 t1 y2 n2 t2 y3 n3 t3 ty
def mem (D:List Int) (lo:Nat) (hi:Option Nat):List Blk:=aS y1 n1 t1 y2 n2 t2 y3 n3 t3 ty++[⟨true,5,.gro .u8 D lo hi⟩]
end
def M0:List (Option SV):=aJ 18 0 [(0,.o (.a (.slc 0 0 3 3))),(3,.o (.a (.v (.slice none 0 0))))]
def M1:List (Option SV):=aJ 18 0 [(0,.o (.a (.slc 0 0 3 3))),(3,.o (.a (.v (.slice none 0 0)))),(6,.o (.a (.v (.int .i64 3)))),(7,.o (.a (.v (.int .i64 0))))]
def M2 (i:Int) (n:Nat):List (Option SV):=aJ 18 0 [(0,.o (.a (.slc 0 0 3 3))),(3,.o (.a (.slg 4 n))),(6,.o (.a (.v (.int .i64 3)))),(7,.o (.a (.v (.int .i64 i))))]
def MZ (n:Nat):List (Option SV):=aJ 18 0 [(3,.o (.a (.slg 4 n)))]
section
variable (y1:List Int) (n1:Nat) (t1:TypeId) (y2:List Int) (n2:Nat) (t2:TypeId) (y3:List Int) (n3:Nat) (t3:TypeId) (ty:TypeId)
theorem jy:oI M0 (aS y1 n1 t1 y2 n2 t2 y3 n3 t3 ty):=by delta oI;kernel_rfl
theorem eT:oI M1 (aS y1 n1 t1 y2 n2 t2 y3 n3 t3 ty):=by delta oI;kernel_rfl
theorem fu (D:List Int) (n lo:Nat) (hi:Option Nat) (i:Int):oI (M2 i n) (mem y1 n1 t1 y2 n2 t2 y3 n3 t3 ty D lo hi):=by delta oI;kernel_rfl
theorem idsZ (D:List Int) (n lo:Nat) (hi:Option Nat):oI (MZ n) (mem y1 n1 t1 y2 n2 t2 y3 n3 t3 ty D lo hi):=by delta oI;kernel_rfl
theorem s0:oX Γ 100 (dU 2 body) (aH fn [.o (.a (.slc 0 0 3 3))]) (args y1 n1 t1 y2 n2 t2 y3 n3 t3 ty) [] .normal M0 (aS y1 n1 t1 y2 n2 t2 y3 n3 t3 ty) []:=by delta oX;kernel_rfl
theorem a14 (g:Nat→SV):oX Γ 100 A14 (fill g 0 (M0)) (aS y1 n1 t1 y2 n2 t2 y3 n3 t3 ty) [] .normal M1 (aS y1 n1 t1 y2 n2 t2 y3 n3 t3 ty) []:=by delta oX;kernel_rfl
theorem i0 (g:Nat→SV):oX Γ 100 L (fill g 0 (M1)) (aS y1 n1 t1 y2 n2 t2 y3 n3 t3 ty) [] .normal (M2 1 n1) (mem y1 n1 t1 y2 n2 t2 y3 n3 t3 ty ((y1.drop 0).take n1) n1 none) [0+n1≤y1.length,0<n1,Room Tryz.prog 5 n1]:=by delta oX;kernel_rfl
theorem i1 (D:List Int) (n:Nat) (g:Nat→SV):oX Γ 100 L (fill g 0 (M2 1 n)) (mem y1 n1 t1 y2 n2 t2 y3 n3 t3 ty D (n+n2) none) [] .normal (M2 2 (n+n2)) (mem y1 n1 t1 y2 n2 t2 y3 n3 t3 ty (D++((y2.drop 0).take n2)) (n+n2) none) [0+n2≤y2.length,n=D.length,n+n2≤n+n2]:=by delta oX;kernel_rfl
theorem j1 (D:List Int) (n lo:Nat) (g:Nat→SV):oN [0,1,2,3,5] Γ 100 L (fill g 0 (M2 1 n)) (mem y1 n1 t1 y2 n2 t2 y3 n3 t3 ty D lo (some (n+n2))) [] .normal (M2 2 (n+n2)) (mem y1 n1 t1 y2 n2 t2 y3 n3 t3 ty (D++((y2.drop 0).take n2)) (n+n2) none) [0+n2≤y2.length,n=D.length,n+n2≤n+n2,Room Tryz.prog 5 (n+n2)]:=by delta oN;kernel_rfl
theorem i2 (D:List Int) (n:Nat) (g:Nat→SV):oX Γ 100 L (fill g 0 (M2 2 n)) (mem y1 n1 t1 y2 n2 t2 y3 n3 t3 ty D (n+n3) none) [] .normal (M2 3 (n+n3)) (mem y1 n1 t1 y2 n2 t2 y3 n3 t3 ty (D++((y3.drop 0).take n3)) (n+n3) none) [0+n3≤y3.length,n=D.length,n+n3≤n+n3]:=by delta oX;kernel_rfl
theorem j2 (D:List Int) (n lo:Nat) (g:Nat→SV):oN [0,1,2,3,5] Γ 100 L (fill g 0 (M2 2 n)) (mem y1 n1 t1 y2 n2 t2 y3 n3 t3 ty D lo (some (n+n3))) [] .normal (M2 3 (n+n3)) (mem y1 n1 t1 y2 n2 t2 y3 n3 t3 ty (D++((y3.drop 0).take n3)) (n+n3) none) [0+n3≤y3.length,n=D.length,n+n3≤n+n3,Room Tryz.prog 5 (n+n3)]:=by delta oN;kernel_rfl
theorem hz (D:List Int) (n lo:Nat) (g:Nat→SV):oX Γ 100 L (fill g 0 (M2 3 n)) (mem y1 n1 t1 y2 n2 t2 y3 n3 t3 ty D lo none) [] (.exit 0) (MZ n) (mem y1 n1 t1 y2 n2 t2 y3 n3 t3 ty D lo none) []:=by delta oX;kernel_rfl
noncomputable def fin (D:List Int) (n lo:Nat) (g:Nat→SV):St:=dz Γ tys 100 jn.D ⟨fill g 0 (MZ n),mem y1 n1 t1 y2 n2 t2 y3 n3 t3 ty D lo none,[]⟩
theorem d (D:List Int) (n lo:Nat) (g:Nat→SV):exec Γ tys 100 jn.D ⟨fill g 0 (MZ n),mem y1 n1 t1 y2 n2 t2 y3 n3 t3 ty D lo none,[]⟩=some (.ret,⟨(fin y1 n1 t1 y2 n2 t2 y3 n3 t3 ty D n lo g).tm,(fin y1 n1 t1 y2 n2 t2 y3 n3 t3 ty D n lo g).mem,[]⟩,[]):=by kernel_rfl
theorem res (D:List Int) (n lo:Nat) (g:Nat→SV):eRes tys (fin y1 n1 t1 y2 n2 t2 y3 n3 t3 ty D n lo g).tm (fun k=>(fin y1 n1 t1 y2 n2 t2 y3 n3 t3 ty D n lo g).mem[k]?) fn.results.toList=some [.a (.slg 4 n)]:=by kernel_rfl
theorem row (D:List Int) (n lo:Nat) (g:Nat→SV):(fin y1 n1 t1 y2 n2 t2 y3 n3 t3 ty D n lo g).mem[4]? =some ⟨true,5,.gro .u8 D lo none⟩:=by kernel_rfl
end
def Mx (n1:Nat) (n2:Nat) (n3:Nat):Nat→List (Option SV)
 | 0=>M1
 | 1=>M2 1 (n1)
 | 2=>M2 2 (n1+n2)
 | _=>M2 3 (n1+n2+n3)
def Bx (y1:List Int) (n1:Nat) (t1:TypeId) (y2:List Int) (n2:Nat) (t2:TypeId) (y3:List Int) (n3:Nat) (t3:TypeId) (ty:TypeId):Nat→List Blk
 | 0=>aS y1 n1 t1 y2 n2 t2 y3 n3 t3 ty
 | 1=>mem y1 n1 t1 y2 n2 t2 y3 n3 t3 ty (((y1.drop 0).take n1)) (n1) none
 | 2=>mem y1 n1 t1 y2 n2 t2 y3 n3 t3 ty (((y1.drop 0).take n1)++((y2.drop 0).take n2)) (n1+n2) none
 | _=>mem y1 n1 t1 y2 n2 t2 y3 n3 t3 ty (((y1.drop 0).take n1)++((y2.drop 0).take n2)++((y3.drop 0).take n3)) (n1+n2+n3) none
theorem walk (y1:List Int) (n1:Nat) (t1:TypeId) (y2:List Int) (n2:Nat) (t2:TypeId) (y3:List Int) (n3:Nat) (t3:TypeId) (ty:TypeId) (h1:y1.length=n1) (h2:y2.length=n2) (h3:y3.length=n3) (h0:0<n1) (hT:(aZ [y1,y2,y3]).length≤140737488355328):
  aK Tryz.prog G2 4 body (aH fn [.o (.a (.slc 0 0 3 3))]) (args y1 n1 t1 y2 n2 t2 y3 n3 t3 ty ) (aN tys fn (bA (.o (.a (.slg 0 (aZ [y1,y2,y3]).length))) (.new 5 (.gro .u8 (aZ [y1,y2,y3]) (aZ [y1,y2,y3]).length none)))):=by
 have hE:(aZ [y1,y2,y3]).length=n1+n2+n3:=by simp only[aZ,List.length_append,List.length_nil];omega
 have el1:((y1.drop 0).take n1).length=n1:=by rw[dt0 y1 n1 h1];exact h1
 have el2:((y2.drop 0).take n2).length=n2:=by rw[dt0 y2 n2 h2];exact h2
 have el3:((y3.drop 0).take n3).length=n3:=by rw[dt0 y3 n3 h3];exact h3
 have hD:((y1.drop 0).take n1)++((y2.drop 0).take n2)++((y3.drop 0).take n3)=aZ [y1,y2,y3]:=by simp only[aZ,dt0 y1 n1 h1,dt0 y2 n2 h2,dt0 y3 n3 h3,List.append_assoc,List.append_nil]
 refine Runs.bS ah mixed 2 (s0 y1 n1 t1 y2 n2 t2 y3 n3 t3 ty ) trivial (jy y1 n1 t1 y2 n2 t2 y3 n3 t3 ty ) rfl fun g=> ?_
 rw[fV]
 refine Runs.seq (Runs.seq (Runs.au ah mixed (a14 y1 n1 t1 y2 n2 t2 y3 n3 t3 ty g) trivial (eT y1 n1 t1 y2 n2 t2 y3 n3 t3 ty ) rfl fun g=> ?_))
 refine Runs.block ?_
 refine Runs.dS (Mx n1 n2 n3 ) (Bx y1 n1 t1 y2 n2 t2 y3 n3 t3 ty ) (fun i=>i≤3) (fun i=>3-i) ?_ 0 (by omega) g
 intro i g hi
 obtain rfl | rfl | rfl | rfl:i=0∨i=1∨i=2∨i=3:=by omega
 ·exact Runs.au ah mixed (i0 y1 n1 t1 y2 n2 t2 y3 n3 t3 ty g) ⟨by omega,h0,qI _ (by omega),trivial⟩ (fu y1 n1 t1 y2 n2 t2 y3 n3 t3 ty _ _ _ _ _) rfl fun g=>⟨1,g,rfl,rfl,by omega,by omega⟩
 ·refine Runs.room 4 (n1+n2) (own:=true) (ty:=5) (kd:= .u8) (xs:=((y1.drop 0).take n1)) (lo:=n1) rfl ?_ ?_
  ·exact Runs.au ah mixed (i1 y1 n1 t1 y2 n2 t2 y3 n3 t3 ty (((y1.drop 0).take n1)) (n1) g) ⟨by omega,(by simp only[List.length_append,List.length_nil,el1,el2,el3];try omega),by omega,trivial⟩ (fu y1 n1 t1 y2 n2 t2 y3 n3 t3 ty _ _ _ _ _) rfl fun g=>⟨2,g,rfl,rfl,by omega,by omega⟩
  ·exact Runs.bW ah mixed _ (j1 y1 n1 t1 y2 n2 t2 y3 n3 t3 ty (((y1.drop 0).take n1)) (n1) (n1) g) ⟨by omega,(by simp only[List.length_append,List.length_nil,el1,el2,el3];try omega),by omega,qI _ (by omega),trivial⟩ (fu y1 n1 t1 y2 n2 t2 y3 n3 t3 ty _ _ _ _ _) rfl fun g=>⟨2,g,rfl,rfl,by omega,by omega⟩
 ·refine Runs.room 4 (n1+n2+n3) (own:=true) (ty:=5) (kd:= .u8) (xs:=((y1.drop 0).take n1)++((y2.drop 0).take n2)) (lo:=n1+n2) rfl ?_ ?_
  ·exact Runs.au ah mixed (i2 y1 n1 t1 y2 n2 t2 y3 n3 t3 ty (((y1.drop 0).take n1)++((y2.drop 0).take n2)) (n1+n2) g) ⟨by omega,(by simp only[List.length_append,List.length_nil,el1,el2,el3];try omega),by omega,trivial⟩ (fu y1 n1 t1 y2 n2 t2 y3 n3 t3 ty _ _ _ _ _) rfl fun g=>⟨3,g,rfl,rfl,by omega,by omega⟩
  ·exact Runs.bW ah mixed _ (j2 y1 n1 t1 y2 n2 t2 y3 n3 t3 ty (((y1.drop 0).take n1)++((y2.drop 0).take n2)) (n1+n2) (n1+n2) g) ⟨by omega,(by simp only[List.length_append,List.length_nil,el1,el2,el3];try omega),by omega,qI _ (by omega),trivial⟩ (fu y1 n1 t1 y2 n2 t2 y3 n3 t3 ty _ _ _ _ _) rfl fun g=>⟨3,g,rfl,rfl,by omega,by omega⟩
 ·refine Runs.au ah mixed (hz y1 n1 t1 y2 n2 t2 y3 n3 t3 ty (((y1.drop 0).take n1)++((y2.drop 0).take n2)++((y3.drop 0).take n3)) (n1+n2+n3) (n1+n2+n3) g) trivial (idsZ y1 n1 t1 y2 n2 t2 y3 n3 t3 ty _ _ _ _) rfl fun g=> ?_
  refine Runs.aQ ah mixed (d y1 n1 t1 y2 n2 t2 y3 n3 t3 ty _ _ _ g) trivial (aN.ret (res y1 n1 t1 y2 n2 t2 y3 n3 t3 ty _ _ _ g) ⟨4,?_,?_⟩)
  ·rw[hE]
   rfl
  ·rw[row,hD,hE]
noncomputable def D:Dec Tryz.prog LstA:=Dec.listV Tryz.prog .u8 [true,true,true] (fun ls=> .o (.a (.slg 0 (aZ ls).length))) (fun ls=> .new 5 (.gro .u8 (aZ ls) (aZ ls).length none)) (fun ls=>[0<(ls.headD []).length,(aZ ls).length≤140737488355328]) (fun ls=>rfl)
noncomputable def con:Con Tryz.prog G2:=Con.hand ah 37 fn Tryz.func37 (by kernel_rfl) (c:=body) (by kernel_rfl) D
 (fun x hc hi=>by
  obtain⟨its,m,ty⟩:=x
  obtain⟨⟨hs,hn,hy⟩,hv⟩:=hi
  have hp:=(aR hc).2
  simp only at hs hn hy hp hv
  obtain⟨a1,t1,rfl,q1⟩:=oh hs
  obtain⟨a2,t2,rfl,q2⟩:=oh q1
  obtain⟨a3,t3,rfl,q3⟩:=oh q2
  obtain rfl:=shp_n q3
  have hn:m=3:=hn
  subst hn
  have h1:=hy a1 (by simp[dR])
  exact walk a1.ys a1.n a1.ty a2.ys a2.n a2.ty a3.ys a3.n a3.ty ty (hy a1 (by simp[dR])) (hy a2 (by simp[dR])) (hy a3 (by simp[dR])) (by have:=hp.1;rw[←h1];exact this) hp.2.1)
end www
end jn
noncomputable def join_con:Con Tryz.prog G2:=Con.or jn.ww.con jn.www.con rfl jn.ww.con_fr
namespace hsd
noncomputable abbrev fn:=Tryz.f38
noncomputable def body:Code:=bZ fn
noncomputable def Γ:Cons Tryz.prog G2:=[join_con,r512_con,rReduce_con]
namespace ww
section
variable (y1:List Int) (n1:Nat) (t1:TypeId) (y2:List Int) (n2:Nat) (t2:TypeId) (ty:TypeId)
def args:List Blk:=[⟨false,ty,.lit [.slg 1 n1,.slg 2 n2]⟩,⟨false,t1,.pre .u8 y1⟩,⟨false,t2,.pre .u8 y2⟩]
theorem ex (d:B64) (r:B32):iY Γ tys fn 100 (args y1 n1 t1 y2 n2 t2 ty ) [.o (.a (.slc 0 0 2 2))] [(5,[.s (bU.enc d)]),(6,[.s (ak.enc r)])]=some (ak.enc r,[0+n1≤y1.length,0+n2≤y2.length,0<([(y1.drop 0).take n1,(y2.drop 0).take n2].headD []).length,(aZ [(y1.drop 0).take n1,(y2.drop 0).take n2]).length≤140737488355328,0+(aZ [(y1.drop 0).take n1,(y2.drop 0).take n2]).length≤(aZ [(y1.drop 0).take n1,(y2.drop 0).take n2]).length,(aZ [(y1.drop 0).take n1,(y2.drop 0).take n2]).length≤(aZ [(y1.drop 0).take n1,(y2.drop 0).take n2]).length,(aZ [(y1.drop 0).take n1,(y2.drop 0).take n2]).length≤140737488354000,bU.enc (fP (((aZ [(y1.drop 0).take n1,(y2.drop 0).take n2]).drop 0).take (aZ [(y1.drop 0).take n1,(y2.drop 0).take n2]).length))=bU.enc d,∀i,0≤d.at i∧d.at i<256,ak.enc (fO (fJ d.at 8 8))=ak.enc r]):=by kernel_rfl
theorem run (h1:y1.length=n1) (h2:y2.length=n2) (h0:0<n1) (hT:(aZ [y1,y2]).length≤140737488354000):aK Tryz.prog G2 3 body (aH fn [.o (.a (.slc 0 0 2 2))]) (args y1 n1 t1 y2 n2 t2 ty ) (aN tys fn (bA (ak.enc (gq (aZ [y1,y2]))) .none)):=by
 have hb:fn.body=some body:=by kernel_rfl
 have e:[(y1.drop 0).take n1,(y2.drop 0).take n2]=[y1,y2]:=by rw[dt0 y1 n1 h1,dt0 y2 n2 h2]
 refine eZ ah mixed hb (ex y1 n1 t1 y2 n2 t2 ty (fP (aZ [y1,y2])) (gq (aZ [y1,y2]))) ⟨by omega,by omega,?_,?_,?_,Nat.le_refl _,?_,?_,sI _,rfl,trivial⟩
 ·rw[e];show 0<y1.length;omega
 ·rw[e];omega
 ·omega
 ·rw[e];exact hT
 ·rw[e,dt0 _ _ rfl]
end
def D (H:List Int→B32):Dec Tryz.prog LstA:=Dec.listV Tryz.prog .u8 [true,true] (fun ls=>ak.enc (H (aZ ls))) (fun _=> .none) (fun ls=>[0<(ls.headD []).length,(aZ ls).length≤140737488354000]) (fun ls=>rfl)
noncomputable def con (H:List Int→B32) (hH:H=gq):Con Tryz.prog G2:=Con.hand ah 38 fn Tryz.func38 (by kernel_rfl) (c:=body) (by kernel_rfl) (D H)
 (fun x hc hi=>by
  subst hH
  obtain⟨its,m,ty⟩:=x
  obtain⟨⟨hs,hn,hy⟩,hv⟩:=hi
  have hp:=(aR hc).2
  simp only at hs hn hy hp hv
  obtain⟨a1,t1,rfl,q1⟩:=oh hs
  obtain⟨a2,t2,rfl,q2⟩:=oh q1
  obtain rfl:=shp_n q2
  have hn:m=2:=hn
  subst hn
  have h1:=hy a1 (by simp[dR])
  exact run a1.ys a1.n a1.ty a2.ys a2.n a2.ty ty (hy a1 (by simp[dR])) (hy a2 (by simp[dR])) (by have:=hp.1;rw[←h1];exact this) hp.2.1)
theorem con_fr (H:List Int→B32) (hH:H=gq):∀m fr fr' args,(con H hH).spec m fr args=none→(con H hH).spec m fr' args=none:=fun _ _ _ _ h=>Con.xU _ _ _ _ _ _ _ _ _ _ _ _ h
end ww
namespace www
section
variable (y1:List Int) (n1:Nat) (t1:TypeId) (y2:List Int) (n2:Nat) (t2:TypeId) (y3:List Int) (n3:Nat) (t3:TypeId) (ty:TypeId)
def args:List Blk:=[⟨false,ty,.lit [.slg 1 n1,.slg 2 n2,.slg 3 n3]⟩,⟨false,t1,.pre .u8 y1⟩,⟨false,t2,.pre .u8 y2⟩,⟨false,t3,.pre .u8 y3⟩]
theorem ex (d:B64) (r:B32):iY Γ tys fn 100 (args y1 n1 t1 y2 n2 t2 y3 n3 t3 ty ) [.o (.a (.slc 0 0 3 3))] [(5,[.s (bU.enc d)]),(6,[.s (ak.enc r)])]=some (ak.enc r,[0+n1≤y1.length,0+n2≤y2.length,0+n3≤y3.length,0<([(y1.drop 0).take n1,(y2.drop 0).take n2,(y3.drop 0).take n3].headD []).length,(aZ [(y1.drop 0).take n1,(y2.drop 0).take n2,(y3.drop 0).take n3]).length≤140737488355328,0+(aZ [(y1.drop 0).take n1,(y2.drop 0).take n2,(y3.drop 0).take n3]).length≤(aZ [(y1.drop 0).take n1,(y2.drop 0).take n2,(y3.drop 0).take n3]).length,(aZ [(y1.drop 0).take n1,(y2.drop 0).take n2,(y3.drop 0).take n3]).length≤(aZ [(y1.drop 0).take n1,(y2.drop 0).take n2,(y3.drop 0).take n3]).length,(aZ [(y1.drop 0).take n1,(y2.drop 0).take n2,(y3.drop 0).take n3]).length≤140737488354000,bU.enc (fP (((aZ [(y1.drop 0).take n1,(y2.drop 0).take n2,(y3.drop 0).take n3]).drop 0).take (aZ [(y1.drop 0).take n1,(y2.drop 0).take n2,(y3.drop 0).take n3]).length))=bU.enc d,∀i,0≤d.at i∧d.at i<256,ak.enc (fO (fJ d.at 8 8))=ak.enc r]):=by kernel_rfl
theorem run (h1:y1.length=n1) (h2:y2.length=n2) (h3:y3.length=n3) (h0:0<n1) (hT:(aZ [y1,y2,y3]).length≤140737488354000):aK Tryz.prog G2 4 body (aH fn [.o (.a (.slc 0 0 3 3))]) (args y1 n1 t1 y2 n2 t2 y3 n3 t3 ty ) (aN tys fn (bA (ak.enc (gq (aZ [y1,y2,y3]))) .none)):=by
 have hb:fn.body=some body:=by kernel_rfl
 have e:[(y1.drop 0).take n1,(y2.drop 0).take n2,(y3.drop 0).take n3]=[y1,y2,y3]:=by rw[dt0 y1 n1 h1,dt0 y2 n2 h2,dt0 y3 n3 h3]
 refine eZ ah mixed hb (ex y1 n1 t1 y2 n2 t2 y3 n3 t3 ty (fP (aZ [y1,y2,y3])) (gq (aZ [y1,y2,y3]))) ⟨by omega,by omega,by omega,?_,?_,?_,Nat.le_refl _,?_,?_,sI _,rfl,trivial⟩
 ·rw[e];show 0<y1.length;omega
 ·rw[e];omega
 ·omega
 ·rw[e];exact hT
 ·rw[e,dt0 _ _ rfl]
end
def D (H:List Int→B32):Dec Tryz.prog LstA:=Dec.listV Tryz.prog .u8 [true,true,true] (fun ls=>ak.enc (H (aZ ls))) (fun _=> .none) (fun ls=>[0<(ls.headD []).length,(aZ ls).length≤140737488354000]) (fun ls=>rfl)
noncomputable def con (H:List Int→B32) (hH:H=gq):Con Tryz.prog G2:=Con.hand ah 38 fn Tryz.func38 (by kernel_rfl) (c:=body) (by kernel_rfl) (D H)
 (fun x hc hi=>by
  subst hH
  obtain⟨its,m,ty⟩:=x
  obtain⟨⟨hs,hn,hy⟩,hv⟩:=hi
  have hp:=(aR hc).2
  simp only at hs hn hy hp hv
  obtain⟨a1,t1,rfl,q1⟩:=oh hs
  obtain⟨a2,t2,rfl,q2⟩:=oh q1
  obtain⟨a3,t3,rfl,q3⟩:=oh q2
  obtain rfl:=shp_n q3
  have hn:m=3:=hn
  subst hn
  have h1:=hy a1 (by simp[dR])
  exact run a1.ys a1.n a1.ty a2.ys a2.n a2.ty a3.ys a3.n a3.ty ty (hy a1 (by simp[dR])) (hy a2 (by simp[dR])) (hy a3 (by simp[dR])) (by have:=hp.1;rw[←h1];exact this) hp.2.1)
end www
end hsd
noncomputable def hashed_con (H:List Int→B32) (hH:H=gq):Con Tryz.prog G2:=Con.or (hsd.ww.con H hH) (hsd.www.con H hH) rfl (hsd.ww.con_fr H hH)
namespace rsgn
noncomputable abbrev fn:=Tryz.f25
noncomputable def body:Code:=bZ fn
section
variable (N P:B32→B32) (hN:N=numV) (hP:P=pfxV) (H:List Int→B32) (hH:H=gq)
noncomputable def Γ:Cons Tryz.prog G2:=[halv.con N P hN hP,qbase_con.lift jh,hashed_con H hH,smul_con.lift jh]
theorem exw (b:B32) (p r R k S:B32) (ys:List Int) (n c:Nat) (ty:TypeId):iY (Γ N P hN hP H hH) tys fn 100 [⟨false,ty,.pre .u8 ys⟩] [ak.enc b,.o (.a (.sld 0 0 0 n c))] [(19,[.s (ak.enc p)]),(23,[.s (ak.enc r)]),(25,[.s (ak.enc R)]),(30,[.s (ak.enc k)]),(34,[.s (ak.enc S)])]=some (bU.enc (cat64 R S),[ak.enc (qU (N b))=ak.enc p,0+32≤(P b).to.length,0+n≤ys.length,0<([((P b).to.drop 0).take 32,((ys.drop 0).take n)].headD []).length,(aZ [((P b).to.drop 0).take 32,((ys.drop 0).take n)]).length≤140737488354000,ak.enc (H (aZ [((P b).to.drop 0).take 32,((ys.drop 0).take n)]))=ak.enc r,ak.enc (qU r)=ak.enc R,32≤32,32≤32,0+n≤ys.length,0<([R.to,p.to,((ys.drop 0).take n)].headD []).length,(aZ [R.to,p.to,((ys.drop 0).take n)]).length≤140737488354000,ak.enc (H (aZ [R.to,p.to,((ys.drop 0).take n)]))=ak.enc k,ak.enc (smulB k (N b) r)=ak.enc S,32≤32,32≤64,32≤32,32≤32]):=by kernel_rfl
end
theorem runw (b:B32) (ys:List Int) (n c:Nat) (ty:TypeId) (hy:ys.length=n) (hn:n≤140737488353900):aK Tryz.prog G2 1 body (aH fn [ak.enc b,.o (.a (.sld 0 0 0 n c))]) [⟨false,ty,.pre .u8 ys⟩] (aN tys fn (bA (bU.enc (sigV b ys)) .none)):=by
 have hb:fn.body=some body:=by kernel_rfl
 have hl:∀q:B32,q.to.length=32:=fun _=>rfl
 have e:=dt0 ys n hy
 exact eZ ah mixed hb (exw numV pfxV rfl rfl gq rfl b (kY b) (nonceV b ys) (ptV b ys) (chV b ys) (endV b ys) ys n c ty) ⟨(rfl),(by rw[hl];omega),(by omega),(by rw[dt0 _ _ (hl (pfxV b))];show 0<32;omega),(by simp only[aZ,List.length_append,List.length_nil,hl,dt0 _ _ (hl (pfxV b)),e];omega),(by rw[dt0 _ _ (hl (pfxV b)),e];rfl),(rfl),(by omega),(by omega),(by omega),(by show 0<32;omega),(by simp only[aZ,List.length_append,List.length_nil,hl,e];omega),(by rw[e];rfl),(rfl),(by omega),(by omega),(by omega),(by omega),(trivial)⟩
def spec (Z:B32→List Int→B64):List aV→Option (SV × dh × Cst)
 | [.val v,.win .u8 ys n ty]=>match ak.dec v with
  | some b=>some (bU.enc (Z b ys),.none,[n≤140737488353900])
  | none=>none
 | _=>none
noncomputable def con (Z:B32→List Int→B64) (hZ:Z=sigV):Con Tryz.prog G2:=Con.parts ah 25 fn Tryz.func25 (by kernel_rfl) (c:=body) (by kernel_rfl) [.val,.win .u8] (spec Z)
 (fun ps r e p h hp=>by
  unfold spec at h
  split at h
  ·split at h<;>cases h
   exact⟨bU.ids _,fun b hb=>by simp only[bG,aV.blk,List.nil_append,List.append_nil,List.mem_singleton] at hb;rw[hb]⟩
  ·cases h)
 (fun ps r e p cap h hp hi=>by
  subst hZ
  unfold spec at h
  split at h
  ·split at h<;>cases h
   rename_i b hb
   have:=ak.ok _ _ hb
   subst this
   exact runw b _ _ _ _ hi.2.1.1 hp.1
  ·cases h)
end rsgn
end Go.Proofs.YthlmepolmemejaaGreatDoor
