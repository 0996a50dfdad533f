/- Package beaconref01: Join of lists of slices: walks, contracts. -/
import Derived.Test.YtbfndladaldajaaGreatDoorQMJ
namespace Go.Proofs.YtbfndladaldajaaGreatDoor
open Go Go.Eng Go.RowKit
set_option linter.unusedVariables false
set_option linter.unusedSimpArgs false
set_option maxRecDepth 100000
namespace jn
namespace wwww
section
variable (y1:List Int) (n1:Nat) (t1:TypeId) (y2:List Int) (n2:Nat) (t2:TypeId) (y3:List Int) (n3:Nat) (t3:TypeId) (y4:List Int) (n4:Nat) (t4:TypeId) (ty:TypeId)
def args:List Blk:=[⟨false,ty,.lit [.slg 1 n1,.slg 2 n2,.slg 3 n3,.slg 4 n4]⟩,⟨false,t1,.pre .u8 y1⟩,⟨false,t2,.pre .u8 y2⟩,⟨false,t3,.pre .u8 y3⟩,⟨false,t4,.pre .u8 y4⟩]
def mem0:List Blk:=args y1 n1 t1 y2 n2 t2 y3 n3 t3 y4 n4 t4 ty
def mem (D:List Int) (lo:Nat) (hi:Option Nat):List Blk:=mem0 y1 n1 t1 y2 n2 t2 y3 n3 t3 y4 n4 t4 ty++[⟨true,5,.gro .u8 D lo hi⟩]
end
def M0:List (Option SV):=aJ 18 0 [(0,.o (.a (.slc 0 0 4 4))),(3,.o (.a (.v (.slice none 0 0))))]
def M1:List (Option SV):=aJ 18 0 [(0,.o (.a (.slc 0 0 4 4))),(3,.o (.a (.v (.slice none 0 0)))),(6,.o (.a (.v (.int .i64 4)))),(7,.o (.a (.v (.int .i64 0))))]
def M2 (i:Int) (n:Nat):List (Option SV):=aJ 18 0 [(0,.o (.a (.slc 0 0 4 4))),(3,.o (.a (.slg 5 n))),(6,.o (.a (.v (.int .i64 4)))),(7,.o (.a (.v (.int .i64 i))))]
def MZ (n:Nat):List (Option SV):=aJ 18 0 [(3,.o (.a (.slg 5 n)))]
section
variable (y1:List Int) (n1:Nat) (t1:TypeId) (y2:List Int) (n2:Nat) (t2:TypeId) (y3:List Int) (n3:Nat) (t3:TypeId) (y4:List Int) (n4:Nat) (t4:TypeId) (ty:TypeId)
theorem ids0:aF (mem0 y1 n1 t1 y2 n2 t2 y3 n3 t3 y4 n4 t4 ty ).length (M0) (mem0 y1 n1 t1 y2 n2 t2 y3 n3 t3 y4 n4 t4 ty )=true:=by kernel_rfl
theorem ids1:aF (mem0 y1 n1 t1 y2 n2 t2 y3 n3 t3 y4 n4 t4 ty ).length (M1) (mem0 y1 n1 t1 y2 n2 t2 y3 n3 t3 y4 n4 t4 ty )=true:=by kernel_rfl
theorem ids2 (D:List Int) (n lo:Nat) (hi:Option Nat) (i:Int):aF (mem y1 n1 t1 y2 n2 t2 y3 n3 t3 y4 n4 t4 ty D lo hi).length (M2 i n) (mem y1 n1 t1 y2 n2 t2 y3 n3 t3 y4 n4 t4 ty D lo hi)=true:=by kernel_rfl
theorem idsZ (D:List Int) (n lo:Nat) (hi:Option Nat):aF (mem y1 n1 t1 y2 n2 t2 y3 n3 t3 y4 n4 t4 ty D lo hi).length (MZ n) (mem y1 n1 t1 y2 n2 t2 y3 n3 t3 y4 n4 t4 ty D lo hi)=true:=by kernel_rfl
theorem s0:outX (mem0 y1 n1 t1 y2 n2 t2 y3 n3 t3 y4 n4 t4 ty ).length (M0) (exec Γ tys 100 (cpre 2 body) ⟨aA fn [.o (.a (.slc 0 0 4 4))],args y1 n1 t1 y2 n2 t2 y3 n3 t3 y4 n4 t4 ty ,[]⟩)=some (.normal,live (M0),(M0).length,mem0 y1 n1 t1 y2 n2 t2 y3 n3 t3 y4 n4 t4 ty ,[]):=by kernel_rfl
theorem a14 (g:Nat→SV):outX (mem0 y1 n1 t1 y2 n2 t2 y3 n3 t3 y4 n4 t4 ty ).length (M1) (exec Γ tys 100 A14 ⟨fill g 0 (M0),mem0 y1 n1 t1 y2 n2 t2 y3 n3 t3 y4 n4 t4 ty ,[]⟩)=some (.normal,live (M1),(M1).length,mem0 y1 n1 t1 y2 n2 t2 y3 n3 t3 y4 n4 t4 ty ,[]):=by kernel_rfl
theorem i0 (g:Nat→SV):outX (mem y1 n1 t1 y2 n2 t2 y3 n3 t3 y4 n4 t4 ty ((y1.drop 0).take n1) n1 none).length (M2 1 n1) (exec Γ tys 100 L ⟨fill g 0 (M1),mem0 y1 n1 t1 y2 n2 t2 y3 n3 t3 y4 n4 t4 ty ,[]⟩)=some (.normal,live (M2 1 n1),(M2 1 n1).length,mem y1 n1 t1 y2 n2 t2 y3 n3 t3 y4 n4 t4 ty ((y1.drop 0).take n1) n1 none,[0+n1≤y1.length,0<n1,Room Tryz.prog 5 n1]):=by kernel_rfl
theorem i1 (D:List Int) (n:Nat) (g:Nat→SV):outX (mem y1 n1 t1 y2 n2 t2 y3 n3 t3 y4 n4 t4 ty (D++((y2.drop 0).take n2)) (n+n2) none).length (M2 2 (n+n2)) (exec Γ tys 100 L ⟨fill g 0 (M2 1 n),mem y1 n1 t1 y2 n2 t2 y3 n3 t3 y4 n4 t4 ty D (n+n2) none,[]⟩)=some (.normal,live (M2 2 (n+n2)),(M2 2 (n+n2)).length,mem y1 n1 t1 y2 n2 t2 y3 n3 t3 y4 n4 t4 ty (D++((y2.drop 0).take n2)) (n+n2) none,[0+n2≤y2.length,n=D.length,n+n2≤n+n2]):=by kernel_rfl
theorem j1 (D:List Int) (n lo:Nat) (g:Nat→SV):outN [0,1,2,3,4,6] (M2 2 (n+n2)) (exec Γ tys 100 L ⟨fill g 0 (M2 1 n),mem y1 n1 t1 y2 n2 t2 y3 n3 t3 y4 n4 t4 ty D lo (some (n+n2)),[]⟩)=some (.normal,(live (M2 2 (n+n2))).map (SV.ren (piF [0,1,2,3,4,6])),(M2 2 (n+n2)).length,(mem y1 n1 t1 y2 n2 t2 y3 n3 t3 y4 n4 t4 ty (D++((y2.drop 0).take n2)) (n+n2) none).map (fun b=>some (b.ren (piF [0,1,2,3,4,6]))),[0+n2≤y2.length,n=D.length,n+n2≤n+n2,Room Tryz.prog 5 (n+n2)]):=by kernel_rfl
theorem i2 (D:List Int) (n:Nat) (g:Nat→SV):outX (mem y1 n1 t1 y2 n2 t2 y3 n3 t3 y4 n4 t4 ty (D++((y3.drop 0).take n3)) (n+n3) none).length (M2 3 (n+n3)) (exec Γ tys 100 L ⟨fill g 0 (M2 2 n),mem y1 n1 t1 y2 n2 t2 y3 n3 t3 y4 n4 t4 ty D (n+n3) none,[]⟩)=some (.normal,live (M2 3 (n+n3)),(M2 3 (n+n3)).length,mem y1 n1 t1 y2 n2 t2 y3 n3 t3 y4 n4 t4 ty (D++((y3.drop 0).take n3)) (n+n3) none,[0+n3≤y3.length,n=D.length,n+n3≤n+n3]):=by kernel_rfl
theorem j2 (D:List Int) (n lo:Nat) (g:Nat→SV):outN [0,1,2,3,4,6] (M2 3 (n+n3)) (exec Γ tys 100 L ⟨fill g 0 (M2 2 n),mem y1 n1 t1 y2 n2 t2 y3 n3 t3 y4 n4 t4 ty D lo (some (n+n3)),[]⟩)=some (.normal,(live (M2 3 (n+n3))).map (SV.ren (piF [0,1,2,3,4,6])),(M2 3 (n+n3)).length,(mem y1 n1 t1 y2 n2 t2 y3 n3 t3 y4 n4 t4 ty (D++((y3.drop 0).take n3)) (n+n3) none).map (fun b=>some (b.ren (piF [0,1,2,3,4,6]))),[0+n3≤y3.length,n=D.length,n+n3≤n+n3,Room Tryz.prog 5 (n+n3)]):=by kernel_rfl
theorem i3 (D:List Int) (n:Nat) (g:Nat→SV):outX (mem y1 n1 t1 y2 n2 t2 y3 n3 t3 y4 n4 t4 ty (D++((y4.drop 0).take n4)) (n+n4) none).length (M2 4 (n+n4)) (exec Γ tys 100 L ⟨fill g 0 (M2 3 n),mem y1 n1 t1 y2 n2 t2 y3 n3 t3 y4 n4 t4 ty D (n+n4) none,[]⟩)=some (.normal,live (M2 4 (n+n4)),(M2 4 (n+n4)).length,mem y1 n1 t1 y2 n2 t2 y3 n3 t3 y4 n4 t4 ty (D++((y4.drop 0).take n4)) (n+n4) none,[0+n4≤y4.length,n=D.length,n+n4≤n+n4]):=by kernel_rfl
theorem j3 (D:List Int) (n lo:Nat) (g:Nat→SV):outN [0,1,2,3,4,6] (M2 4 (n+n4)) (exec Γ tys 100 L ⟨fill g 0 (M2 3 n),mem y1 n1 t1 y2 n2 t2 y3 n3 t3 y4 n4 t4 ty D lo (some (n+n4)),[]⟩)=some (.normal,(live (M2 4 (n+n4))).map (SV.ren (piF [0,1,2,3,4,6])),(M2 4 (n+n4)).length,(mem y1 n1 t1 y2 n2 t2 y3 n3 t3 y4 n4 t4 ty (D++((y4.drop 0).take n4)) (n+n4) none).map (fun b=>some (b.ren (piF [0,1,2,3,4,6]))),[0+n4≤y4.length,n=D.length,n+n4≤n+n4,Room Tryz.prog 5 (n+n4)]):=by kernel_rfl
theorem hz (D:List Int) (n lo:Nat) (g:Nat→SV):outX (mem y1 n1 t1 y2 n2 t2 y3 n3 t3 y4 n4 t4 ty D lo none).length (MZ n) (exec Γ tys 100 L ⟨fill g 0 (M2 4 n),mem y1 n1 t1 y2 n2 t2 y3 n3 t3 y4 n4 t4 ty D lo none,[]⟩)=some (.exit 0,live (MZ n),(MZ n).length,mem y1 n1 t1 y2 n2 t2 y3 n3 t3 y4 n4 t4 ty D lo none,[]):=by kernel_rfl
noncomputable def fin (D:List Int) (n lo:Nat) (g:Nat→SV):St:=outS Γ tys 100 jn.D ⟨fill g 0 (MZ n),mem y1 n1 t1 y2 n2 t2 y3 n3 t3 y4 n4 t4 ty D lo none,[]⟩
theorem d (D:List Int) (n lo:Nat) (g:Nat→SV):exec Γ tys 100 jn.D ⟨fill g 0 (MZ n),mem y1 n1 t1 y2 n2 t2 y3 n3 t3 y4 n4 t4 ty D lo none,[]⟩=some (.ret,⟨(fin y1 n1 t1 y2 n2 t2 y3 n3 t3 y4 n4 t4 ty D n lo g).tm,(fin y1 n1 t1 y2 n2 t2 y3 n3 t3 y4 n4 t4 ty D n lo g).mem,[]⟩,[]):=by kernel_rfl
theorem res (D:List Int) (n lo:Nat) (g:Nat→SV):eRes tys (fin y1 n1 t1 y2 n2 t2 y3 n3 t3 y4 n4 t4 ty D n lo g).tm (fun k=>(fin y1 n1 t1 y2 n2 t2 y3 n3 t3 y4 n4 t4 ty D n lo g).mem[k]?) fn.results.toList=some [.a (.slg 5 n)]:=by kernel_rfl
theorem row (D:List Int) (n lo:Nat) (g:Nat→SV):(fin y1 n1 t1 y2 n2 t2 y3 n3 t3 y4 n4 t4 ty D n lo g).mem[5]? =some ⟨true,5,.gro .u8 D lo none⟩:=by kernel_rfl
end
def Mx (y1:List Int) (n1:Nat) (t1:TypeId) (y2:List Int) (n2:Nat) (t2:TypeId) (y3:List Int) (n3:Nat) (t3:TypeId) (y4:List Int) (n4:Nat) (t4:TypeId) (ty:TypeId):Nat→List (Option SV)
 | 0=>M1
 | 1=>M2 1 (n1)
 | 2=>M2 2 (n1+n2)
 | 3=>M2 3 (n1+n2+n3)
 | _=>M2 4 (n1+n2+n3+n4)
def Bx (y1:List Int) (n1:Nat) (t1:TypeId) (y2:List Int) (n2:Nat) (t2:TypeId) (y3:List Int) (n3:Nat) (t3:TypeId) (y4:List Int) (n4:Nat) (t4:TypeId) (ty:TypeId):Nat→List Blk
 | 0=>mem0 y1 n1 t1 y2 n2 t2 y3 n3 t3 y4 n4 t4 ty
 | 1=>mem y1 n1 t1 y2 n2 t2 y3 n3 t3 y4 n4 t4 ty (((y1.drop 0).take n1)) (n1) none
 | 2=>mem y1 n1 t1 y2 n2 t2 y3 n3 t3 y4 n4 t4 ty (((y1.drop 0).take n1)++((y2.drop 0).take n2)) (n1+n2) none
 | 3=>mem y1 n1 t1 y2 n2 t2 y3 n3 t3 y4 n4 t4 ty (((y1.drop 0).take n1)++((y2.drop 0).take n2)++((y3.drop 0).take n3)) (n1+n2+n3) none
 | _=>mem y1 n1 t1 y2 n2 t2 y3 n3 t3 y4 n4 t4 ty (((y1.drop 0).take n1)++((y2.drop 0).take n2)++((y3.drop 0).take n3)++((y4.drop 0).take n4)) (n1+n2+n3+n4) none
theorem walk (y1:List Int) (n1:Nat) (t1:TypeId) (y2:List Int) (n2:Nat) (t2:TypeId) (y3:List Int) (n3:Nat) (t3:TypeId) (y4:List Int) (n4:Nat) (t4:TypeId) (ty:TypeId) (h1:y1.length=n1) (h2:y2.length=n2) (h3:y3.length=n3) (h4:y4.length=n4) (h0:0<n1) (hT:(catL [y1,y2,y3,y4]).length≤140737488355328):
  aG Tryz.prog G2 5 body (aA fn [.o (.a (.slc 0 0 4 4))]) (args y1 n1 t1 y2 n2 t2 y3 n3 t3 y4 n4 t4 ty ) (aD tys fn (aX (.o (.a (.slg 0 (catL [y1,y2,y3,y4]).length))) (.new 5 (.gro .u8 (catL [y1,y2,y3,y4]) (catL [y1,y2,y3,y4]).length none)))):=by
 have hE:(catL [y1,y2,y3,y4]).length=n1+n2+n3+n4:=by simp only[catL,List.length_append,List.length_nil];omega
 have el1:((y1.drop 0).take n1).length=n1:=by rw[dt0 y1 n1 h1];exact h1
 have el2:((y2.drop 0).take n2).length=n2:=by rw[dt0 y2 n2 h2];exact h2
 have el3:((y3.drop 0).take n3).length=n3:=by rw[dt0 y3 n3 h3];exact h3
 have el4:((y4.drop 0).take n4).length=n4:=by rw[dt0 y4 n4 h4];exact h4
 have hD:((y1.drop 0).take n1)++((y2.drop 0).take n2)++((y3.drop 0).take n3)++((y4.drop 0).take n4)=catL [y1,y2,y3,y4]:=by simp only[catL,dt0 y1 n1 h1,dt0 y2 n2 h2,dt0 y3 n3 h3,dt0 y4 n4 h4,List.append_assoc,List.append_nil,List.nil_append]
 refine Runs.bI ah mixed 2 (s0 y1 n1 t1 y2 n2 t2 y3 n3 t3 y4 n4 t4 ty ) trivial (ids0 y1 n1 t1 y2 n2 t2 y3 n3 t3 y4 n4 t4 ty ) rfl fun g=> ?_
 rw[suf_eq]
 refine Runs.seq (Runs.seq (Runs.ak ah mixed (a14 y1 n1 t1 y2 n2 t2 y3 n3 t3 y4 n4 t4 ty g) trivial (ids1 y1 n1 t1 y2 n2 t2 y3 n3 t3 y4 n4 t4 ty ) rfl fun g=> ?_))
 refine Runs.block ?_
 refine Runs.loopX (Mx y1 n1 t1 y2 n2 t2 y3 n3 t3 y4 n4 t4 ty ) (Bx y1 n1 t1 y2 n2 t2 y3 n3 t3 y4 n4 t4 ty ) (fun i=>i≤4) (fun i=>4-i) ?_ 0 (by omega) g
 intro i g hi
 obtain rfl | rfl | rfl | rfl | rfl:i=0∨i=1∨i=2∨i=3∨i=4:=by omega
 ·exact Runs.ak ah mixed (i0 y1 n1 t1 y2 n2 t2 y3 n3 t3 y4 n4 t4 ty g) ⟨by omega,h0,roomU _ (by omega),trivial⟩ (ids2 y1 n1 t1 y2 n2 t2 y3 n3 t3 y4 n4 t4 ty _ _ _ _ _) rfl fun g=>⟨1,g,rfl,rfl,by omega,by omega⟩
 ·refine Runs.room 5 (n1+n2) (own:=true) (ty:=5) (kd:= .u8) (xs:=((y1.drop 0).take n1)) (lo:=n1) rfl ?_ ?_
  ·exact Runs.ak ah mixed (i1 y1 n1 t1 y2 n2 t2 y3 n3 t3 y4 n4 t4 ty (((y1.drop 0).take n1)) (n1) g) ⟨by omega,(by simp only[List.length_append,List.length_nil,el1,el2,el3,el4];try omega),by omega,trivial⟩ (ids2 y1 n1 t1 y2 n2 t2 y3 n3 t3 y4 n4 t4 ty _ _ _ _ _) rfl fun g=>⟨2,g,rfl,rfl,by omega,by omega⟩
  ·exact Runs.bA ah mixed _ (j1 y1 n1 t1 y2 n2 t2 y3 n3 t3 y4 n4 t4 ty (((y1.drop 0).take n1)) (n1) (n1) g) ⟨by omega,(by simp only[List.length_append,List.length_nil,el1,el2,el3,el4];try omega),by omega,roomU _ (by omega),trivial⟩ (ids2 y1 n1 t1 y2 n2 t2 y3 n3 t3 y4 n4 t4 ty _ _ _ _ _) rfl fun g=>⟨2,g,rfl,rfl,by omega,by omega⟩
 ·refine Runs.room 5 (n1+n2+n3) (own:=true) (ty:=5) (kd:= .u8) (xs:=((y1.drop 0).take n1)++((y2.drop 0).take n2)) (lo:=n1+n2) rfl ?_ ?_
  ·exact Runs.ak ah mixed (i2 y1 n1 t1 y2 n2 t2 y3 n3 t3 y4 n4 t4 ty (((y1.drop 0).take n1)++((y2.drop 0).take n2)) (n1+n2) g) ⟨by omega,(by simp only[List.length_append,List.length_nil,el1,el2,el3,el4];try omega),by omega,trivial⟩ (ids2 y1 n1 t1 y2 n2 t2 y3 n3 t3 y4 n4 t4 ty _ _ _ _ _) rfl fun g=>⟨3,g,rfl,rfl,by omega,by omega⟩
  ·exact Runs.bA ah mixed _ (j2 y1 n1 t1 y2 n2 t2 y3 n3 t3 y4 n4 t4 ty (((y1.drop 0).take n1)++((y2.drop 0).take n2)) (n1+n2) (n1+n2) g) ⟨by omega,(by simp only[List.length_append,List.length_nil,el1,el2,el3,el4];try omega),by omega,roomU _ (by omega),trivial⟩ (ids2 y1 n1 t1 y2 n2 t2 y3 n3 t3 y4 n4 t4 ty _ _ _ _ _) rfl fun g=>⟨3,g,rfl,rfl,by omega,by omega⟩
 ·refine Runs.room 5 (n1+n2+n3+n4) (own:=true) (ty:=5) (kd:= .u8) (xs:=((y1.drop 0).take n1)++((y2.drop 0).take n2)++((y3.drop 0).take n3)) (lo:=n1+n2+n3) rfl ?_ ?_
  ·exact Runs.ak ah mixed (i3 y1 n1 t1 y2 n2 t2 y3 n3 t3 y4 n4 t4 ty (((y1.drop 0).take n1)++((y2.drop 0).take n2)++((y3.drop 0).take n3)) (n1+n2+n3) g) ⟨by omega,(by simp only[List.length_append,List.length_nil,el1,el2,el3,el4];try omega),by omega,trivial⟩ (ids2 y1 n1 t1 y2 n2 t2 y3 n3 t3 y4 n4 t4 ty _ _ _ _ _) rfl fun g=>⟨4,g,rfl,rfl,by omega,by omega⟩
  ·exact Runs.bA ah mixed _ (j3 y1 n1 t1 y2 n2 t2 y3 n3 t3 y4 n4 t4 ty (((y1.drop 0).take n1)++((y2.drop 0).take n2)++((y3.drop 0).take n3)) (n1+n2+n3) (n1+n2+n3) g) ⟨by omega,(by simp only[List.length_append,List.length_nil,el1,el2,el3,el4];try omega),by omega,roomU _ (by omega),trivial⟩ (ids2 y1 n1 t1 y2 n2 t2 y3 n3 t3 y4 n4 t4 ty _ _ _ _ _) rfl fun g=>⟨4,g,rfl,rfl,by omega,by omega⟩
 ·refine Runs.ak ah mixed (hz y1 n1 t1 y2 n2 t2 y3 n3 t3 y4 n4 t4 ty (((y1.drop 0).take n1)++((y2.drop 0).take n2)++((y3.drop 0).take n3)++((y4.drop 0).take n4)) (n1+n2+n3+n4) (n1+n2+n3+n4) g) trivial (idsZ y1 n1 t1 y2 n2 t2 y3 n3 t3 y4 n4 t4 ty _ _ _ _) rfl fun g=> ?_
  refine Runs.aH ah mixed (d y1 n1 t1 y2 n2 t2 y3 n3 t3 y4 n4 t4 ty _ _ _ g) trivial (aD.ret (res y1 n1 t1 y2 n2 t2 y3 n3 t3 y4 n4 t4 ty _ _ _ g) ⟨5,?_,?_⟩)
  ·rw[hE]
   rfl
  ·rw[row,hD,hE]
noncomputable def D:Dec Tryz.prog LstA:=Dec.listV Tryz.prog .u8 [true,true,true,true] (fun ls=> .o (.a (.slg 0 (catL ls).length))) (fun ls=> .new 5 (.gro .u8 (catL ls) (catL ls).length none)) (fun ls=>[0<(ls.headD []).length,(catL ls).length≤140737488355328]) (fun ls=>rfl)
noncomputable def con:Con Tryz.prog G2:=Con.hand ah 49 fn Tryz.func49 (by kernel_rfl) (c:=body) (by kernel_rfl) D
 (fun x hc hi=>by
  obtain⟨its,m,ty⟩:=x
  obtain⟨⟨hs,hn,hy⟩,hv⟩:=hi
  have hp:=(aL hc).2
  simp only at hs hn hy hp hv
  obtain⟨a1,t1,rfl,q1⟩:=shp_w hs
  obtain⟨a2,t2,rfl,q2⟩:=shp_w q1
  obtain⟨a3,t3,rfl,q3⟩:=shp_w q2
  obtain⟨a4,t4,rfl,q4⟩:=shp_w q3
  obtain rfl:=shp_n q4
  have hn:m=4:=hn
  subst hn
  have h1:=hy a1 (by simp[bq])
  exact walk a1.ys a1.n a1.ty a2.ys a2.n a2.ty a3.ys a3.n a3.ty a4.ys a4.n a4.ty ty (hy a1 (by simp[bq])) (hy a2 (by simp[bq])) (hy a3 (by simp[bq])) (hy a4 (by simp[bq])) (by have:=hp.1;rw[←h1];exact this) hp.2.1)
theorem con_fr:∀m fr fr' args,con.spec m fr args=none→con.spec m fr' args=none:=fun _ _ _ _ h=>Con.hand_fr _ _ _ _ _ _ _ _ _ _ _ _ h
end wwww
namespace wwvw
section
variable (y1:List Int) (n1:Nat) (t1:TypeId) (y2:List Int) (n2:Nat) (t2:TypeId) (p3:Option Addr) (k3:Nat) (y4:List Int) (n4:Nat) (t4:TypeId) (ty:TypeId)
def args:List Blk:=[⟨false,ty,.lit [.slg 1 n1,.slg 2 n2,.v (.slice p3 0 k3),.slg 3 n4]⟩,⟨false,t1,.pre .u8 y1⟩,⟨false,t2,.pre .u8 y2⟩,⟨false,t4,.pre .u8 y4⟩]
def mem0:List Blk:=args y1 n1 t1 y2 n2 t2 p3 k3 y4 n4 t4 ty
def mem (D:List Int) (lo:Nat) (hi:Option Nat):List Blk:=mem0 y1 n1 t1 y2 n2 t2 p3 k3 y4 n4 t4 ty++[⟨true,5,.gro .u8 D lo hi⟩]
end
def M0:List (Option SV):=aJ 18 0 [(0,.o (.a (.slc 0 0 4 4))),(3,.o (.a (.v (.slice none 0 0))))]
def M1:List (Option SV):=aJ 18 0 [(0,.o (.a (.slc 0 0 4 4))),(3,.o (.a (.v (.slice none 0 0)))),(6,.o (.a (.v (.int .i64 4)))),(7,.o (.a (.v (.int .i64 0))))]
def M2 (i:Int) (n:Nat):List (Option SV):=aJ 18 0 [(0,.o (.a (.slc 0 0 4 4))),(3,.o (.a (.slg 4 n))),(6,.o (.a (.v (.int .i64 4)))),(7,.o (.a (.v (.int .i64 i))))]
def MZ (n:Nat):List (Option SV):=aJ 18 0 [(3,.o (.a (.slg 4 n)))]
section
variable (y1:List Int) (n1:Nat) (t1:TypeId) (y2:List Int) (n2:Nat) (t2:TypeId) (p3:Option Addr) (k3:Nat) (y4:List Int) (n4:Nat) (t4:TypeId) (ty:TypeId)
theorem ids0:aF (mem0 y1 n1 t1 y2 n2 t2 p3 k3 y4 n4 t4 ty ).length (M0) (mem0 y1 n1 t1 y2 n2 t2 p3 k3 y4 n4 t4 ty )=true:=by kernel_rfl
theorem ids1:aF (mem0 y1 n1 t1 y2 n2 t2 p3 k3 y4 n4 t4 ty ).length (M1) (mem0 y1 n1 t1 y2 n2 t2 p3 k3 y4 n4 t4 ty )=true:=by kernel_rfl
theorem ids2 (D:List Int) (n lo:Nat) (hi:Option Nat) (i:Int):aF (mem y1 n1 t1 y2 n2 t2 p3 k3 y4 n4 t4 ty D lo hi).length (M2 i n) (mem y1 n1 t1 y2 n2 t2 p3 k3 y4 n4 t4 ty D lo hi)=true:=by kernel_rfl
theorem idsZ (D:List Int) (n lo:Nat) (hi:Option Nat):aF (mem y1 n1 t1 y2 n2 t2 p3 k3 y4 n4 t4 ty D lo hi).length (MZ n) (mem y1 n1 t1 y2 n2 t2 p3 k3 y4 n4 t4 ty D lo hi)=true:=by kernel_rfl
theorem s0:outX (mem0 y1 n1 t1 y2 n2 t2 p3 k3 y4 n4 t4 ty ).length (M0) (exec Γ tys 100 (cpre 2 body) ⟨aA fn [.o (.a (.slc 0 0 4 4))],args y1 n1 t1 y2 n2 t2 p3 k3 y4 n4 t4 ty ,[]⟩)=some (.normal,live (M0),(M0).length,mem0 y1 n1 t1 y2 n2 t2 p3 k3 y4 n4 t4 ty ,[]):=by kernel_rfl
theorem a14 (g:Nat→SV):outX (mem0 y1 n1 t1 y2 n2 t2 p3 k3 y4 n4 t4 ty ).length (M1) (exec Γ tys 100 A14 ⟨fill g 0 (M0),mem0 y1 n1 t1 y2 n2 t2 p3 k3 y4 n4 t4 ty ,[]⟩)=some (.normal,live (M1),(M1).length,mem0 y1 n1 t1 y2 n2 t2 p3 k3 y4 n4 t4 ty ,[]):=by kernel_rfl
theorem i0 (g:Nat→SV):outX (mem y1 n1 t1 y2 n2 t2 p3 k3 y4 n4 t4 ty ((y1.drop 0).take n1) n1 none).length (M2 1 n1) (exec Γ tys 100 L ⟨fill g 0 (M1),mem0 y1 n1 t1 y2 n2 t2 p3 k3 y4 n4 t4 ty ,[]⟩)=some (.normal,live (M2 1 n1),(M2 1 n1).length,mem y1 n1 t1 y2 n2 t2 p3 k3 y4 n4 t4 ty ((y1.drop 0).take n1) n1 none,[0+n1≤y1.length,0<n1,Room Tryz.prog 5 n1]):=by kernel_rfl
theorem i1 (D:List Int) (n:Nat) (g:Nat→SV):outX (mem y1 n1 t1 y2 n2 t2 p3 k3 y4 n4 t4 ty (D++((y2.drop 0).take n2)) (n+n2) none).length (M2 2 (n+n2)) (exec Γ tys 100 L ⟨fill g 0 (M2 1 n),mem y1 n1 t1 y2 n2 t2 p3 k3 y4 n4 t4 ty D (n+n2) none,[]⟩)=some (.normal,live (M2 2 (n+n2)),(M2 2 (n+n2)).length,mem y1 n1 t1 y2 n2 t2 p3 k3 y4 n4 t4 ty (D++((y2.drop 0).take n2)) (n+n2) none,[0+n2≤y2.length,n=D.length,n+n2≤n+n2]):=by kernel_rfl
theorem j1 (D:List Int) (n lo:Nat) (g:Nat→SV):outN [0,1,2,3,5] (M2 2 (n+n2)) (exec Γ tys 100 L ⟨fill g 0 (M2 1 n),mem y1 n1 t1 y2 n2 t2 p3 k3 y4 n4 t4 ty D lo (some (n+n2)),[]⟩)=some (.normal,(live (M2 2 (n+n2))).map (SV.ren (piF [0,1,2,3,5])),(M2 2 (n+n2)).length,(mem y1 n1 t1 y2 n2 t2 p3 k3 y4 n4 t4 ty (D++((y2.drop 0).take n2)) (n+n2) none).map (fun b=>some (b.ren (piF [0,1,2,3,5]))),[0+n2≤y2.length,n=D.length,n+n2≤n+n2,Room Tryz.prog 5 (n+n2)]):=by kernel_rfl
theorem i2 (D:List Int) (n:Nat) (g:Nat→SV):outX (mem y1 n1 t1 y2 n2 t2 p3 k3 y4 n4 t4 ty (D++[]) (n+0) none).length (M2 3 (n+0)) (exec Γ tys 100 L ⟨fill g 0 (M2 2 n),mem y1 n1 t1 y2 n2 t2 p3 k3 y4 n4 t4 ty D (n+0) none,[]⟩)=some (.normal,live (M2 3 (n+0)),(M2 3 (n+0)).length,mem y1 n1 t1 y2 n2 t2 p3 k3 y4 n4 t4 ty (D++[]) (n+0) none,[n=D.length,n+0≤n+0]):=by kernel_rfl
theorem i3 (D:List Int) (n:Nat) (g:Nat→SV):outX (mem y1 n1 t1 y2 n2 t2 p3 k3 y4 n4 t4 ty (D++((y4.drop 0).take n4)) (n+n4) none).length (M2 4 (n+n4)) (exec Γ tys 100 L ⟨fill g 0 (M2 3 n),mem y1 n1 t1 y2 n2 t2 p3 k3 y4 n4 t4 ty D (n+n4) none,[]⟩)=some (.normal,live (M2 4 (n+n4)),(M2 4 (n+n4)).length,mem y1 n1 t1 y2 n2 t2 p3 k3 y4 n4 t4 ty (D++((y4.drop 0).take n4)) (n+n4) none,[0+n4≤y4.length,n=D.length,n+n4≤n+n4]):=by kernel_rfl
theorem j3 (D:List Int) (n lo:Nat) (g:Nat→SV):outN [0,1,2,3,5] (M2 4 (n+n4)) (exec Γ tys 100 L ⟨fill g 0 (M2 3 n),mem y1 n1 t1 y2 n2 t2 p3 k3 y4 n4 t4 ty D lo (some (n+n4)),[]⟩)=some (.normal,(live (M2 4 (n+n4))).map (SV.ren (piF [0,1,2,3,5])),(M2 4 (n+n4)).length,(mem y1 n1 t1 y2 n2 t2 p3 k3 y4 n4 t4 ty (D++((y4.drop 0).take n4)) (n+n4) none).map (fun b=>some (b.ren (piF [0,1,2,3,5]))),[0+n4≤y4.length,n=D.length,n+n4≤n+n4,Room Tryz.prog 5 (n+n4)]):=by kernel_rfl
theorem hz (D:List Int) (n lo:Nat) (g:Nat→SV):outX (mem y1 n1 t1 y2 n2 t2 p3 k3 y4 n4 t4 ty D lo none).length (MZ n) (exec Γ tys 100 L ⟨fill g 0 (M2 4 n),mem y1 n1 t1 y2 n2 t2 p3 k3 y4 n4 t4 ty D lo none,[]⟩)=some (.exit 0,live (MZ n),(MZ n).length,mem y1 n1 t1 y2 n2 t2 p3 k3 y4 n4 t4 ty D lo none,[]):=by kernel_rfl
noncomputable def fin (D:List Int) (n lo:Nat) (g:Nat→SV):St:=outS Γ tys 100 jn.D ⟨fill g 0 (MZ n),mem y1 n1 t1 y2 n2 t2 p3 k3 y4 n4 t4 ty D lo none,[]⟩
theorem d (D:List Int) (n lo:Nat) (g:Nat→SV):exec Γ tys 100 jn.D ⟨fill g 0 (MZ n),mem y1 n1 t1 y2 n2 t2 p3 k3 y4 n4 t4 ty D lo none,[]⟩=some (.ret,⟨(fin y1 n1 t1 y2 n2 t2 p3 k3 y4 n4 t4 ty D n lo g).tm,(fin y1 n1 t1 y2 n2 t2 p3 k3 y4 n4 t4 ty D n lo g).mem,[]⟩,[]):=by kernel_rfl
theorem res (D:List Int) (n lo:Nat) (g:Nat→SV):eRes tys (fin y1 n1 t1 y2 n2 t2 p3 k3 y4 n4 t4 ty D n lo g).tm (fun k=>(fin y1 n1 t1 y2 n2 t2 p3 k3 y4 n4 t4 ty D n lo g).mem[k]?) fn.results.toList=some [.a (.slg 4 n)]:=by kernel_rfl
theorem row (D:List Int) (n lo:Nat) (g:Nat→SV):(fin y1 n1 t1 y2 n2 t2 p3 k3 y4 n4 t4 ty D n lo g).mem[4]? =some ⟨true,5,.gro .u8 D lo none⟩:=by kernel_rfl
end
def Mx (y1:List Int) (n1:Nat) (t1:TypeId) (y2:List Int) (n2:Nat) (t2:TypeId) (p3:Option Addr) (k3:Nat) (y4:List Int) (n4:Nat) (t4:TypeId) (ty:TypeId):Nat→List (Option SV)
 | 0=>M1
 | 1=>M2 1 (n1)
 | 2=>M2 2 (n1+n2)
 | 3=>M2 3 (n1+n2+0)
 | _=>M2 4 (n1+n2+0+n4)
def Bx (y1:List Int) (n1:Nat) (t1:TypeId) (y2:List Int) (n2:Nat) (t2:TypeId) (p3:Option Addr) (k3:Nat) (y4:List Int) (n4:Nat) (t4:TypeId) (ty:TypeId):Nat→List Blk
 | 0=>mem0 y1 n1 t1 y2 n2 t2 p3 k3 y4 n4 t4 ty
 | 1=>mem y1 n1 t1 y2 n2 t2 p3 k3 y4 n4 t4 ty (((y1.drop 0).take n1)) (n1) none
 | 2=>mem y1 n1 t1 y2 n2 t2 p3 k3 y4 n4 t4 ty (((y1.drop 0).take n1)++((y2.drop 0).take n2)) (n1+n2) none
 | 3=>mem y1 n1 t1 y2 n2 t2 p3 k3 y4 n4 t4 ty (((y1.drop 0).take n1)++((y2.drop 0).take n2)++[]) (n1+n2+0) none
 | _=>mem y1 n1 t1 y2 n2 t2 p3 k3 y4 n4 t4 ty (((y1.drop 0).take n1)++((y2.drop 0).take n2)++[]++((y4.drop 0).take n4)) (n1+n2+0+n4) none
theorem walk (y1:List Int) (n1:Nat) (t1:TypeId) (y2:List Int) (n2:Nat) (t2:TypeId) (p3:Option Addr) (k3:Nat) (y4:List Int) (n4:Nat) (t4:TypeId) (ty:TypeId) (h1:y1.length=n1) (h2:y2.length=n2) (h4:y4.length=n4) (h0:0<n1) (hT:(catL [y1,y2,[],y4]).length≤140737488355328):
  aG Tryz.prog G2 4 body (aA fn [.o (.a (.slc 0 0 4 4))]) (args y1 n1 t1 y2 n2 t2 p3 k3 y4 n4 t4 ty ) (aD tys fn (aX (.o (.a (.slg 0 (catL [y1,y2,[],y4]).length))) (.new 5 (.gro .u8 (catL [y1,y2,[],y4]) (catL [y1,y2,[],y4]).length none)))):=by
 have hE:(catL [y1,y2,[],y4]).length=n1+n2+0+n4:=by simp only[catL,List.length_append,List.length_nil];omega
 have el1:((y1.drop 0).take n1).length=n1:=by rw[dt0 y1 n1 h1];exact h1
 have el2:((y2.drop 0).take n2).length=n2:=by rw[dt0 y2 n2 h2];exact h2
 have el4:((y4.drop 0).take n4).length=n4:=by rw[dt0 y4 n4 h4];exact h4
 have hD:((y1.drop 0).take n1)++((y2.drop 0).take n2)++[]++((y4.drop 0).take n4)=catL [y1,y2,[],y4]:=by simp only[catL,dt0 y1 n1 h1,dt0 y2 n2 h2,dt0 y4 n4 h4,List.append_assoc,List.append_nil,List.nil_append]
 refine Runs.bI ah mixed 2 (s0 y1 n1 t1 y2 n2 t2 p3 k3 y4 n4 t4 ty ) trivial (ids0 y1 n1 t1 y2 n2 t2 p3 k3 y4 n4 t4 ty ) rfl fun g=> ?_
 rw[suf_eq]
 refine Runs.seq (Runs.seq (Runs.ak ah mixed (a14 y1 n1 t1 y2 n2 t2 p3 k3 y4 n4 t4 ty g) trivial (ids1 y1 n1 t1 y2 n2 t2 p3 k3 y4 n4 t4 ty ) rfl fun g=> ?_))
 refine Runs.block ?_
 refine Runs.loopX (Mx y1 n1 t1 y2 n2 t2 p3 k3 y4 n4 t4 ty ) (Bx y1 n1 t1 y2 n2 t2 p3 k3 y4 n4 t4 ty ) (fun i=>i≤4) (fun i=>4-i) ?_ 0 (by omega) g
 intro i g hi
 obtain rfl | rfl | rfl | rfl | rfl:i=0∨i=1∨i=2∨i=3∨i=4:=by omega
 ·exact Runs.ak ah mixed (i0 y1 n1 t1 y2 n2 t2 p3 k3 y4 n4 t4 ty g) ⟨by omega,h0,roomU _ (by omega),trivial⟩ (ids2 y1 n1 t1 y2 n2 t2 p3 k3 y4 n4 t4 ty _ _ _ _ _) rfl fun g=>⟨1,g,rfl,rfl,by omega,by omega⟩
 ·refine Runs.room 4 (n1+n2) (own:=true) (ty:=5) (kd:= .u8) (xs:=((y1.drop 0).take n1)) (lo:=n1) rfl ?_ ?_
  ·exact Runs.ak ah mixed (i1 y1 n1 t1 y2 n2 t2 p3 k3 y4 n4 t4 ty (((y1.drop 0).take n1)) (n1) g) ⟨by omega,(by simp only[List.length_append,List.length_nil,el1,el2,el4];try omega),by omega,trivial⟩ (ids2 y1 n1 t1 y2 n2 t2 p3 k3 y4 n4 t4 ty _ _ _ _ _) rfl fun g=>⟨2,g,rfl,rfl,by omega,by omega⟩
  ·exact Runs.bA ah mixed _ (j1 y1 n1 t1 y2 n2 t2 p3 k3 y4 n4 t4 ty (((y1.drop 0).take n1)) (n1) (n1) g) ⟨by omega,(by simp only[List.length_append,List.length_nil,el1,el2,el4];try omega),by omega,roomU _ (by omega),trivial⟩ (ids2 y1 n1 t1 y2 n2 t2 p3 k3 y4 n4 t4 ty _ _ _ _ _) rfl fun g=>⟨2,g,rfl,rfl,by omega,by omega⟩
 ·exact Runs.ak ah mixed (i2 y1 n1 t1 y2 n2 t2 p3 k3 y4 n4 t4 ty (((y1.drop 0).take n1)++((y2.drop 0).take n2)) (n1+n2) g) ⟨(by simp only[List.length_append,List.length_nil,el1,el2,el4];try omega),by omega,trivial⟩ (ids2 y1 n1 t1 y2 n2 t2 p3 k3 y4 n4 t4 ty _ _ _ _ _) rfl fun g=>⟨3,g,rfl,rfl,by omega,by omega⟩
 ·refine Runs.room 4 (n1+n2+0+n4) (own:=true) (ty:=5) (kd:= .u8) (xs:=((y1.drop 0).take n1)++((y2.drop 0).take n2)++[]) (lo:=n1+n2+0) rfl ?_ ?_
  ·exact Runs.ak ah mixed (i3 y1 n1 t1 y2 n2 t2 p3 k3 y4 n4 t4 ty (((y1.drop 0).take n1)++((y2.drop 0).take n2)++[]) (n1+n2+0) g) ⟨by omega,(by simp only[List.length_append,List.length_nil,el1,el2,el4];try omega),by omega,trivial⟩ (ids2 y1 n1 t1 y2 n2 t2 p3 k3 y4 n4 t4 ty _ _ _ _ _) rfl fun g=>⟨4,g,rfl,rfl,by omega,by omega⟩
  ·exact Runs.bA ah mixed _ (j3 y1 n1 t1 y2 n2 t2 p3 k3 y4 n4 t4 ty (((y1.drop 0).take n1)++((y2.drop 0).take n2)++[]) (n1+n2+0) (n1+n2+0) g) ⟨by omega,(by simp only[List.length_append,List.length_nil,el1,el2,el4];try omega),by omega,roomU _ (by omega),trivial⟩ (ids2 y1 n1 t1 y2 n2 t2 p3 k3 y4 n4 t4 ty _ _ _ _ _) rfl fun g=>⟨4,g,rfl,rfl,by omega,by omega⟩
 ·refine Runs.ak ah mixed (hz y1 n1 t1 y2 n2 t2 p3 k3 y4 n4 t4 ty (((y1.drop 0).take n1)++((y2.drop 0).take n2)++[]++((y4.drop 0).take n4)) (n1+n2+0+n4) (n1+n2+0+n4) g) trivial (idsZ y1 n1 t1 y2 n2 t2 p3 k3 y4 n4 t4 ty _ _ _ _) rfl fun g=> ?_
  refine Runs.aH ah mixed (d y1 n1 t1 y2 n2 t2 p3 k3 y4 n4 t4 ty _ _ _ g) trivial (aD.ret (res y1 n1 t1 y2 n2 t2 p3 k3 y4 n4 t4 ty _ _ _ g) ⟨4,?_,?_⟩)
  ·rw[hE]
   rfl
  ·rw[row,hD,hE]
noncomputable def D:Dec Tryz.prog LstA:=Dec.listV Tryz.prog .u8 [true,true,false,true] (fun ls=> .o (.a (.slg 0 (catL ls).length))) (fun ls=> .new 5 (.gro .u8 (catL ls) (catL ls).length none)) (fun ls=>[0<(ls.headD []).length,(catL ls).length≤140737488355328]) (fun ls=>rfl)
noncomputable def con:Con Tryz.prog G2:=Con.hand ah 49 fn Tryz.func49 (by kernel_rfl) (c:=body) (by kernel_rfl) D
 (fun x hc hi=>by
  obtain⟨its,m,ty⟩:=x
  obtain⟨⟨hs,hn,hy⟩,hv⟩:=hi
  have hp:=(aL hc).2
  simp only at hs hn hy hp hv
  obtain⟨a1,t1,rfl,q1⟩:=shp_w hs
  obtain⟨a2,t2,rfl,q2⟩:=shp_w q1
  obtain⟨a3,t3,rfl,q3⟩:=shp_v q2
  obtain⟨a4,t4,rfl,q4⟩:=shp_w q3
  obtain rfl:=shp_n q4
  obtain⟨p3,k3,rfl⟩:=hv a3 (by simp)
  have hn:m=4:=hn
  subst hn
  have h1:=hy a1 (by simp[bq])
  exact walk a1.ys a1.n a1.ty a2.ys a2.n a2.ty p3 k3 a4.ys a4.n a4.ty ty (hy a1 (by simp[bq])) (hy a2 (by simp[bq])) (hy a4 (by simp[bq])) (by have:=hp.1;rw[←h1];exact this) hp.2.1)
theorem con_fr:∀m fr fr' args,con.spec m fr args=none→con.spec m fr' args=none:=fun _ _ _ _ h=>Con.hand_fr _ _ _ _ _ _ _ _ _ _ _ _ h
end wwvw
namespace wwwwwww
section
variable (y1:List Int) (n1:Nat) (t1:TypeId) (y2:List Int) (n2:Nat) (t2:TypeId) (y3:List Int) (n3:Nat) (t3:TypeId) (y4:List Int) (n4:Nat) (t4:TypeId) (y5:List Int) (n5:Nat) (t5:TypeId) (y6:List Int) (n6:Nat) (t6:TypeId) (y7:List Int) (n7:Nat) (t7:TypeId) (ty:TypeId)
def args:List Blk:=[⟨false,ty,.lit [.slg 1 n1,.slg 2 n2,.slg 3 n3,.slg 4 n4,.slg 5 n5,.slg 6 n6,.slg 7 n7]⟩,⟨false,t1,.pre .u8 y1⟩,⟨false,t2,.pre .u8 y2⟩,⟨false,t3,.pre .u8 y3⟩,⟨false,t4,.pre .u8 y4⟩,⟨false,t5,.pre .u8 y5⟩,⟨false,t6,.pre .u8 y6⟩,⟨false,t7,.pre .u8 y7⟩]
def mem0:List Blk:=args y1 n1 t1 y2 n2 t2 y3 n3 t3 y4 n4 t4 y5 n5 t5 y6 n6 t6 y7 n7 t7 ty
def mem (D:List Int) (lo:Nat) (hi:Option Nat):List Blk:=mem0 y1 n1 t1 y2 n2 t2 y3 n3 t3 y4 n4 t4 y5 n5 t5 y6 n6 t6 y7 n7 t7 ty++[⟨true,5,.gro .u8 D lo hi⟩]
end
def M0:List (Option SV):=aJ 18 0 [(0,.o (.a (.slc 0 0 7 7))),(3,.o (.a (.v (.slice none 0 0))))]
def M1:List (Option SV):=aJ 18 0 [(0,.o (.a (.slc 0 0 7 7))),(3,.o (.a (.v (.slice none 0 0)))),(6,.o (.a (.v (.int .i64 7)))),(7,.o (.a (.v (.int .i64 0))))]
def M2 (i:Int) (n:Nat):List (Option SV):=aJ 18 0 [(0,.o (.a (.slc 0 0 7 7))),(3,.o (.a (.slg 8 n))),(6,.o (.a (.v (.int .i64 7)))),(7,.o (.a (.v (.int .i64 i))))]
def MZ (n:Nat):List (Option SV):=aJ 18 0 [(3,.o (.a (.slg 8 n)))]
section
variable (y1:List Int) (n1:Nat) (t1:TypeId) (y2:List Int) (n2:Nat) (t2:TypeId) (y3:List Int) (n3:Nat) (t3:TypeId) (y4:List Int) (n4:Nat) (t4:TypeId) (y5:List Int) (n5:Nat) (t5:TypeId) (y6:List Int) (n6:Nat) (t6:TypeId) (y7:List Int) (n7:Nat) (t7:TypeId) (ty:TypeId)
theorem ids0:aF (mem0 y1 n1 t1 y2 n2 t2 y3 n3 t3 y4 n4 t4 y5 n5 t5 y6 n6 t6 y7 n7 t7 ty ).length (M0) (mem0 y1 n1 t1 y2 n2 t2 y3 n3 t3 y4 n4 t4 y5 n5 t5 y6 n6 t6 y7 n7 t7 ty )=true:=by kernel_rfl
theorem ids1:aF (mem0 y1 n1 t1 y2 n2 t2 y3 n3 t3 y4 n4 t4 y5 n5 t5 y6 n6 t6 y7 n7 t7 ty ).length (M1) (mem0 y1 n1 t1 y2 n2 t2 y3 n3 t3 y4 n4 t4 y5 n5 t5 y6 n6 t6 y7 n7 t7 ty )=true:=by kernel_rfl
theorem ids2 (D:List Int) (n lo:Nat) (hi:Option Nat) (i:Int):aF (mem y1 n1 t1 y2 n2 t2 y3 n3 t3 y4 n4 t4 y5 n5 t5 y6 n6 t6 y7 n7 t7 ty D lo hi).length (M2 i n) (mem y1 n1 t1 y2 n2 t2 y3 n3 t3 y4 n4 t4 y5 n5 t5 y6 n6 t6 y7 n7 t7 ty D lo hi)=true:=by kernel_rfl
theorem idsZ (D:List Int) (n lo:Nat) (hi:Option Nat):aF (mem y1 n1 t1 y2 n2 t2 y3 n3 t3 y4 n4 t4 y5 n5 t5 y6 n6 t6 y7 n7 t7 ty D lo hi).length (MZ n) (mem y1 n1 t1 y2 n2 t2 y3 n3 t3 y4 n4 t4 y5 n5 t5 y6 n6 t6 y7 n7 t7 ty D lo hi)=true:=by kernel_rfl
theorem s0:outX (mem0 y1 n1 t1 y2 n2 t2 y3 n3 t3 y4 n4 t4 y5 n5 t5 y6 n6 t6 y7 n7 t7 ty ).length (M0) (exec Γ tys 100 (cpre 2 body) ⟨aA fn [.o (.a (.slc 0 0 7 7))],args y1 n1 t1 y2 n2 t2 y3 n3 t3 y4 n4 t4 y5 n5 t5 y6 n6 t6 y7 n7 t7 ty ,[]⟩)=some (.normal,live (M0),(M0).length,mem0 y1 n1 t1 y2 n2 t2 y3 n3 t3 y4 n4 t4 y5 n5 t5 y6 n6 t6 y7 n7 t7 ty ,[]):=by kernel_rfl
theorem a14 (g:Nat→SV):outX (mem0 y1 n1 t1 y2 n2 t2 y3 n3 t3 y4 n4 t4 y5 n5 t5 y6 n6 t6 y7 n7 t7 ty ).length (M1) (exec Γ tys 100 A14 ⟨fill g 0 (M0),mem0 y1 n1 t1 y2 n2 t2 y3 n3 t3 y4 n4 t4 y5 n5 t5 y6 n6 t6 y7 n7 t7 ty ,[]⟩)=some (.normal,live (M1),(M1).length,mem0 y1 n1 t1 y2 n2 t2 y3 n3 t3 y4 n4 t4 y5 n5 t5 y6 n6 t6 y7 n7 t7 ty ,[]):=by kernel_rfl
theorem i0 (g:Nat→SV):outX (mem y1 n1 t1 y2 n2 t2 y3 n3 t3 y4 n4 t4 y5 n5 t5 y6 n6 t6 y7 n7 t7 ty ((y1.drop 0).take n1) n1 none).length (M2 1 n1) (exec Γ tys 100 L ⟨fill g 0 (M1),mem0 y1 n1 t1 y2 n2 t2 y3 n3 t3 y4 n4 t4 y5 n5 t5 y6 n6 t6 y7 n7 t7 ty ,[]⟩)=some (.normal,live (M2 1 n1),(M2 1 n1).length,mem y1 n1 t1 y2 n2 t2 y3 n3 t3 y4 n4 t4 y5 n5 t5 y6 n6 t6 y7 n7 t7 ty ((y1.drop 0).take n1) n1 none,[0+n1≤y1.length,0<n1,Room Tryz.prog 5 n1]):=by kernel_rfl
theorem i1 (D:List Int) (n:Nat) (g:Nat→SV):outX (mem y1 n1 t1 y2 n2 t2 y3 n3 t3 y4 n4 t4 y5 n5 t5 y6 n6 t6 y7 n7 t7 ty (D++((y2.drop 0).take n2)) (n+n2) none).length (M2 2 (n+n2)) (exec Γ tys 100 L ⟨fill g 0 (M2 1 n),mem y1 n1 t1 y2 n2 t2 y3 n3 t3 y4 n4 t4 y5 n5 t5 y6 n6 t6 y7 n7 t7 ty D (n+n2) none,[]⟩)=some (.normal,live (M2 2 (n+n2)),(M2 2 (n+n2)).length,mem y1 n1 t1 y2 n2 t2 y3 n3 t3 y4 n4 t4 y5 n5 t5 y6 n6 t6 y7 n7 t7 ty (D++((y2.drop 0).take n2)) (n+n2) none,[0+n2≤y2.length,n=D.length,n+n2≤n+n2]):=by kernel_rfl
theorem j1 (D:List Int) (n lo:Nat) (g:Nat→SV):outN [0,1,2,3,4,5,6,7,9] (M2 2 (n+n2)) (exec Γ tys 100 L ⟨fill g 0 (M2 1 n),mem y1 n1 t1 y2 n2 t2 y3 n3 t3 y4 n4 t4 y5 n5 t5 y6 n6 t6 y7 n7 t7 ty D lo (some (n+n2)),[]⟩)=some (.normal,(live (M2 2 (n+n2))).map (SV.ren (piF [0,1,2,3,4,5,6,7,9])),(M2 2 (n+n2)).length,(mem y1 n1 t1 y2 n2 t2 y3 n3 t3 y4 n4 t4 y5 n5 t5 y6 n6 t6 y7 n7 t7 ty (D++((y2.drop 0).take n2)) (n+n2) none).map (fun b=>some (b.ren (piF [0,1,2,3,4,5,6,7,9]))),[0+n2≤y2.length,n=D.length,n+n2≤n+n2,Room Tryz.prog 5 (n+n2)]):=by kernel_rfl
theorem i2 (D:List Int) (n:Nat) (g:Nat→SV):outX (mem y1 n1 t1 y2 n2 t2 y3 n3 t3 y4 n4 t4 y5 n5 t5 y6 n6 t6 y7 n7 t7 ty (D++((y3.drop 0).take n3)) (n+n3) none).length (M2 3 (n+n3)) (exec Γ tys 100 L ⟨fill g 0 (M2 2 n),mem y1 n1 t1 y2 n2 t2 y3 n3 t3 y4 n4 t4 y5 n5 t5 y6 n6 t6 y7 n7 t7 ty D (n+n3) none,[]⟩)=some (.normal,live (M2 3 (n+n3)),(M2 3 (n+n3)).length,mem y1 n1 t1 y2 n2 t2 y3 n3 t3 y4 n4 t4 y5 n5 t5 y6 n6 t6 y7 n7 t7 ty (D++((y3.drop 0).take n3)) (n+n3) none,[0+n3≤y3.length,n=D.length,n+n3≤n+n3]):=by kernel_rfl
theorem j2 (D:List Int) (n lo:Nat) (g:Nat→SV):outN [0,1,2,3,4,5,6,7,9] (M2 3 (n+n3)) (exec Γ tys 100 L ⟨fill g 0 (M2 2 n),mem y1 n1 t1 y2 n2 t2 y3 n3 t3 y4 n4 t4 y5 n5 t5 y6 n6 t6 y7 n7 t7 ty D lo (some (n+n3)),[]⟩)=some (.normal,(live (M2 3 (n+n3))).map (SV.ren (piF [0,1,2,3,4,5,6,7,9])),(M2 3 (n+n3)).length,(mem y1 n1 t1 y2 n2 t2 y3 n3 t3 y4 n4 t4 y5 n5 t5 y6 n6 t6 y7 n7 t7 ty (D++((y3.drop 0).take n3)) (n+n3) none).map (fun b=>some (b.ren (piF [0,1,2,3,4,5,6,7,9]))),[0+n3≤y3.length,n=D.length,n+n3≤n+n3,Room Tryz.prog 5 (n+n3)]):=by kernel_rfl
theorem i3 (D:List Int) (n:Nat) (g:Nat→SV):outX (mem y1 n1 t1 y2 n2 t2 y3 n3 t3 y4 n4 t4 y5 n5 t5 y6 n6 t6 y7 n7 t7 ty (D++((y4.drop 0).take n4)) (n+n4) none).length (M2 4 (n+n4)) (exec Γ tys 100 L ⟨fill g 0 (M2 3 n),mem y1 n1 t1 y2 n2 t2 y3 n3 t3 y4 n4 t4 y5 n5 t5 y6 n6 t6 y7 n7 t7 ty D (n+n4) none,[]⟩)=some (.normal,live (M2 4 (n+n4)),(M2 4 (n+n4)).length,mem y1 n1 t1 y2 n2 t2 y3 n3 t3 y4 n4 t4 y5 n5 t5 y6 n6 t6 y7 n7 t7 ty (D++((y4.drop 0).take n4)) (n+n4) none,[0+n4≤y4.length,n=D.length,n+n4≤n+n4]):=by kernel_rfl
theorem j3 (D:List Int) (n lo:Nat) (g:Nat→SV):outN [0,1,2,3,4,5,6,7,9] (M2 4 (n+n4)) (exec Γ tys 100 L ⟨fill g 0 (M2 3 n),mem y1 n1 t1 y2 n2 t2 y3 n3 t3 y4 n4 t4 y5 n5 t5 y6 n6 t6 y7 n7 t7 ty D lo (some (n+n4)),[]⟩)=some (.normal,(live (M2 4 (n+n4))).map (SV.ren (piF [0,1,2,3,4,5,6,7,9])),(M2 4 (n+n4)).length,(mem y1 n1 t1 y2 n2 t2 y3 n3 t3 y4 n4 t4 y5 n5 t5 y6 n6 t6 y7 n7 t7 ty (D++((y4.drop 0).take n4)) (n+n4) none).map (fun b=>some (b.ren (piF [0,1,2,3,4,5,6,7,9]))),[0+n4≤y4.length,n=D.length,n+n4≤n+n4,Room Tryz.prog 5 (n+n4)]):=by kernel_rfl
theorem i4 (D:List Int) (n:Nat) (g:Nat→SV):outX (mem y1 n1 t1 y2 n2 t2 y3 n3 t3 y4 n4 t4 y5 n5 t5 y6 n6 t6 y7 n7 t7 ty (D++((y5.drop 0).take n5)) (n+n5) none).length (M2 5 (n+n5)) (exec Γ tys 100 L ⟨fill g 0 (M2 4 n),mem y1 n1 t1 y2 n2 t2 y3 n3 t3 y4 n4 t4 y5 n5 t5 y6 n6 t6 y7 n7 t7 ty D (n+n5) none,[]⟩)=some (.normal,live (M2 5 (n+n5)),(M2 5 (n+n5)).length,mem y1 n1 t1 y2 n2 t2 y3 n3 t3 y4 n4 t4 y5 n5 t5 y6 n6 t6 y7 n7 t7 ty (D++((y5.drop 0).take n5)) (n+n5) none,[0+n5≤y5.length,n=D.length,n+n5≤n+n5]):=by kernel_rfl
theorem j4 (D:List Int) (n lo:Nat) (g:Nat→SV):outN [0,1,2,3,4,5,6,7,9] (M2 5 (n+n5)) (exec Γ tys 100 L ⟨fill g 0 (M2 4 n),mem y1 n1 t1 y2 n2 t2 y3 n3 t3 y4 n4 t4 y5 n5 t5 y6 n6 t6 y7 n7 t7 ty D lo (some (n+n5)),[]⟩)=some (.normal,(live (M2 5 (n+n5))).map (SV.ren (piF [0,1,2,3,4,5,6,7,9])),(M2 5 (n+n5)).length,(mem y1 n1 t1 y2 n2 t2 y3 n3 t3 y4 n4 t4 y5 n5 t5 y6 n6 t6 y7 n7 t7 ty (D++((y5.drop 0).take n5)) (n+n5) none).map (fun b=>some (b.ren (piF [0,1,2,3,4,5,6,7,9]))),[0+n5≤y5.length,n=D.length,n+n5≤n+n5,Room Tryz.prog 5 (n+n5)]):=by kernel_rfl
theorem i5 (D:List Int) (n:Nat) (g:Nat→SV):outX (mem y1 n1 t1 y2 n2 t2 y3 n3 t3 y4 n4 t4 y5 n5 t5 y6 n6 t6 y7 n7 t7 ty (D++((y6.drop 0).take n6)) (n+n6) none).length (M2 6 (n+n6)) (exec Γ tys 100 L ⟨fill g 0 (M2 5 n),mem y1 n1 t1 y2 n2 t2 y3 n3 t3 y4 n4 t4 y5 n5 t5 y6 n6 t6 y7 n7 t7 ty D (n+n6) none,[]⟩)=some (.normal,live (M2 6 (n+n6)),(M2 6 (n+n6)).length,mem y1 n1 t1 y2 n2 t2 y3 n3 t3 y4 n4 t4 y5 n5 t5 y6 n6 t6 y7 n7 t7 ty (D++((y6.drop 0).take n6)) (n+n6) none,[0+n6≤y6.length,n=D.length,n+n6≤n+n6]):=by kernel_rfl
theorem j5 (D:List Int) (n lo:Nat) (g:Nat→SV):outN [0,1,2,3,4,5,6,7,9] (M2 6 (n+n6)) (exec Γ tys 100 L ⟨fill g 0 (M2 5 n),mem y1 n1 t1 y2 n2 t2 y3 n3 t3 y4 n4 t4 y5 n5 t5 y6 n6 t6 y7 n7 t7 ty D lo (some (n+n6)),[]⟩)=some (.normal,(live (M2 6 (n+n6))).map (SV.ren (piF [0,1,2,3,4,5,6,7,9])),(M2 6 (n+n6)).length,(mem y1 n1 t1 y2 n2 t2 y3 n3 t3 y4 n4 t4 y5 n5 t5 y6 n6 t6 y7 n7 t7 ty (D++((y6.drop 0).take n6)) (n+n6) none).map (fun b=>some (b.ren (piF [0,1,2,3,4,5,6,7,9]))),[0+n6≤y6.length,n=D.length,n+n6≤n+n6,Room Tryz.prog 5 (n+n6)]):=by kernel_rfl
theorem i6 (D:List Int) (n:Nat) (g:Nat→SV):outX (mem y1 n1 t1 y2 n2 t2 y3 n3 t3 y4 n4 t4 y5 n5 t5 y6 n6 t6 y7 n7 t7 ty (D++((y7.drop 0).take n7)) (n+n7) none).length (M2 7 (n+n7)) (exec Γ tys 100 L ⟨fill g 0 (M2 6 n),mem y1 n1 t1 y2 n2 t2 y3 n3 t3 y4 n4 t4 y5 n5 t5 y6 n6 t6 y7 n7 t7 ty D (n+n7) none,[]⟩)=some (.normal,live (M2 7 (n+n7)),(M2 7 (n+n7)).length,mem y1 n1 t1 y2 n2 t2 y3 n3 t3 y4 n4 t4 y5 n5 t5 y6 n6 t6 y7 n7 t7 ty (D++((y7.drop 0).take n7)) (n+n7) none,[0+n7≤y7.length,n=D.length,n+n7≤n+n7]):=by kernel_rfl
theorem j6 (D:List Int) (n lo:Nat) (g:Nat→SV):outN [0,1,2,3,4,5,6,7,9] (M2 7 (n+n7)) (exec Γ tys 100 L ⟨fill g 0 (M2 6 n),mem y1 n1 t1 y2 n2 t2 y3 n3 t3 y4 n4 t4 y5 n5 t5 y6 n6 t6 y7 n7 t7 ty D lo (some (n+n7)),[]⟩)=some (.normal,(live (M2 7 (n+n7))).map (SV.ren (piF [0,1,2,3,4,5,6,7,9])),(M2 7 (n+n7)).length,(mem y1 n1 t1 y2 n2 t2 y3 n3 t3 y4 n4 t4 y5 n5 t5 y6 n6 t6 y7 n7 t7 ty (D++((y7.drop 0).take n7)) (n+n7) none).map (fun b=>some (b.ren (piF [0,1,2,3,4,5,6,7,9]))),[0+n7≤y7.length,n=D.length,n+n7≤n+n7,Room Tryz.prog 5 (n+n7)]):=by kernel_rfl
theorem hz (D:List Int) (n lo:Nat) (g:Nat→SV):outX (mem y1 n1 t1 y2 n2 t2 y3 n3 t3 y4 n4 t4 y5 n5 t5 y6 n6 t6 y7 n7 t7 ty D lo none).length (MZ n) (exec Γ tys 100 L ⟨fill g 0 (M2 7 n),mem y1 n1 t1 y2 n2 t2 y3 n3 t3 y4 n4 t4 y5 n5 t5 y6 n6 t6 y7 n7 t7 ty D lo none,[]⟩)=some (.exit 0,live (MZ n),(MZ n).length,mem y1 n1 t1 y2 n2 t2 y3 n3 t3 y4 n4 t4 y5 n5 t5 y6 n6 t6 y7 n7 t7 ty D lo none,[]):=by kernel_rfl
noncomputable def fin (D:List Int) (n lo:Nat) (g:Nat→SV):St:=outS Γ tys 100 jn.D ⟨fill g 0 (MZ n),mem y1 n1 t1 y2 n2 t2 y3 n3 t3 y4 n4 t4 y5 n5 t5 y6 n6 t6 y7 n7 t7 ty D lo none,[]⟩
theorem d (D:List Int) (n lo:Nat) (g:Nat→SV):exec Γ tys 100 jn.D ⟨fill g 0 (MZ n),mem y1 n1 t1 y2 n2 t2 y3 n3 t3 y4 n4 t4 y5 n5 t5 y6 n6 t6 y7 n7 t7 ty D lo none,[]⟩=some (.ret,⟨(fin y1 n1 t1 y2 n2 t2 y3 n3 t3 y4 n4 t4 y5 n5 t5 y6 n6 t6 y7 n7 t7 ty D n lo g).tm,(fin y1 n1 t1 y2 n2 t2 y3 n3 t3 y4 n4 t4 y5 n5 t5 y6 n6 t6 y7 n7 t7 ty D n lo g).mem,[]⟩,[]):=by kernel_rfl
theorem res (D:List Int) (n lo:Nat) (g:Nat→SV):eRes tys (fin y1 n1 t1 y2 n2 t2 y3 n3 t3 y4 n4 t4 y5 n5 t5 y6 n6 t6 y7 n7 t7 ty D n lo g).tm (fun k=>(fin y1 n1 t1 y2 n2 t2 y3 n3 t3 y4 n4 t4 y5 n5 t5 y6 n6 t6 y7 n7 t7 ty D n lo g).mem[k]?) fn.results.toList=some [.a (.slg 8 n)]:=by kernel_rfl
theorem row (D:List Int) (n lo:Nat) (g:Nat→SV):(fin y1 n1 t1 y2 n2 t2 y3 n3 t3 y4 n4 t4 y5 n5 t5 y6 n6 t6 y7 n7 t7 ty D n lo g).mem[8]? =some ⟨true,5,.gro .u8 D lo none⟩:=by kernel_rfl
end
def Mx (y1:List Int) (n1:Nat) (t1:TypeId) (y2:List Int) (n2:Nat) (t2:TypeId) (y3:List Int) (n3:Nat) (t3:TypeId) (y4:List Int) (n4:Nat) (t4:TypeId) (y5:List Int) (n5:Nat) (t5:TypeId) (y6:List Int) (n6:Nat) (t6:TypeId) (y7:List Int) (n7:Nat) (t7:TypeId) (ty:TypeId):Nat→List (Option SV)
 | 0=>M1
 | 1=>M2 1 (n1)
 | 2=>M2 2 (n1+n2)
 | 3=>M2 3 (n1+n2+n3)
 | 4=>M2 4 (n1+n2+n3+n4)
 | 5=>M2 5 (n1+n2+n3+n4+n5)
 | 6=>M2 6 (n1+n2+n3+n4+n5+n6)
 | _=>M2 7 (n1+n2+n3+n4+n5+n6+n7)
def Bx (y1:List Int) (n1:Nat) (t1:TypeId) (y2:List Int) (n2:Nat) (t2:TypeId) (y3:List Int) (n3:Nat) (t3:TypeId) (y4:List Int) (n4:Nat) (t4:TypeId) (y5:List Int) (n5:Nat) (t5:TypeId) (y6:List Int) (n6:Nat) (t6:TypeId) (y7:List Int) (n7:Nat) (t7:TypeId) (ty:TypeId):Nat→List Blk
 | 0=>mem0 y1 n1 t1 y2 n2 t2 y3 n3 t3 y4 n4 t4 y5 n5 t5 y6 n6 t6 y7 n7 t7 ty
 | 1=>mem y1 n1 t1 y2 n2 t2 y3 n3 t3 y4 n4 t4 y5 n5 t5 y6 n6 t6 y7 n7 t7 ty (((y1.drop 0).take n1)) (n1) none
 | 2=>mem y1 n1 t1 y2 n2 t2 y3 n3 t3 y4 n4 t4 y5 n5 t5 y6 n6 t6 y7 n7 t7 ty (((y1.drop 0).take n1)++((y2.drop 0).take n2)) (n1+n2) none
 | 3=>mem y1 n1 t1 y2 n2 t2 y3 n3 t3 y4 n4 t4 y5 n5 t5 y6 n6 t6 y7 n7 t7 ty (((y1.drop 0).take n1)++((y2.drop 0).take n2)++((y3.drop 0).take n3)) (n1+n2+n3) none
 | 4=>mem y1 n1 t1 y2 n2 t2 y3 n3 t3 y4 n4 t4 y5 n5 t5 y6 n6 t6 y7 n7 t7 ty (((y1.drop 0).take n1)++((y2.drop 0).take n2)++((y3.drop 0).take n3)++((y4.drop 0).take n4)) (n1+n2+n3+n4) none
 | 5=>mem y1 n1 t1 y2 n2 t2 y3 n3 t3 y4 n4 t4 y5 n5 t5 y6 n6 t6 y7 n7 t7 ty (((y1.drop 0).take n1)++((y2.drop 0).take n2)++((y3.drop 0).take n3)++((y4.drop 0).take n4)++((y5.drop 0).take n5)) (n1+n2+n3+n4+n5) none
 | 6=>mem y1 n1 t1 y2 n2 t2 y3 n3 t3 y4 n4 t4 y5 n5 t5 y6 n6 t6 y7 n7 t7 ty (((y1.drop 0).take n1)++((y2.drop 0).take n2)++((y3.drop 0).take n3)++((y4.drop 0).take n4)++((y5.drop 0).take n5)++((y6.drop 0).take n6)) (n1+n2+n3+n4+n5+n6) none
 | _=>mem y1 n1 t1 y2 n2 t2 y3 n3 t3 y4 n4 t4 y5 n5 t5 y6 n6 t6 y7 n7 t7 ty (((y1.drop 0).take n1)++((y2.drop 0).take n2)++((y3.drop 0).take n3)++((y4.drop 0).take n4)++((y5.drop 0).take n5)++((y6.drop 0).take n6)++((y7.drop 0).take n7)) (n1+n2+n3+n4+n5+n6+n7) none
theorem walk (y1:List Int) (n1:Nat) (t1:TypeId) (y2:List Int) (n2:Nat) (t2:TypeId) (y3:List Int) (n3:Nat) (t3:TypeId) (y4:List Int) (n4:Nat) (t4:TypeId) (y5:List Int) (n5:Nat) (t5:TypeId) (y6:List Int) (n6:Nat) (t6:TypeId) (y7:List Int) (n7:Nat) (t7:TypeId) (ty:TypeId) (h1:y1.length=n1) (h2:y2.length=n2) (h3:y3.length=n3) (h4:y4.length=n4) (h5:y5.length=n5) (h6:y6.length=n6) (h7:y7.length=n7) (h0:0<n1) (hT:(catL [y1,y2,y3,y4,y5,y6,y7]).length≤140737488355328):
  aG Tryz.prog G2 8 body (aA fn [.o (.a (.slc 0 0 7 7))]) (args y1 n1 t1 y2 n2 t2 y3 n3 t3 y4 n4 t4 y5 n5 t5 y6 n6 t6 y7 n7 t7 ty ) (aD tys fn (aX (.o (.a (.slg 0 (catL [y1,y2,y3,y4,y5,y6,y7]).length))) (.new 5 (.gro .u8 (catL [y1,y2,y3,y4,y5,y6,y7]) (catL [y1,y2,y3,y4,y5,y6,y7]).length none)))):=by
 have hE:(catL [y1,y2,y3,y4,y5,y6,y7]).length=n1+n2+n3+n4+n5+n6+n7:=by simp only[catL,List.length_append,List.length_nil];omega
 have el1:((y1.drop 0).take n1).length=n1:=by rw[dt0 y1 n1 h1];exact h1
 have el2:((y2.drop 0).take n2).length=n2:=by rw[dt0 y2 n2 h2];exact h2
 have el3:((y3.drop 0).take n3).length=n3:=by rw[dt0 y3 n3 h3];exact h3
 have el4:((y4.drop 0).take n4).length=n4:=by rw[dt0 y4 n4 h4];exact h4
 have el5:((y5.drop 0).take n5).length=n5:=by rw[dt0 y5 n5 h5];exact h5
 have el6:((y6.drop 0).take n6).length=n6:=by rw[dt0 y6 n6 h6];exact h6
 have el7:((y7.drop 0).take n7).length=n7:=by rw[dt0 y7 n7 h7];exact h7
 have hD:((y1.drop 0).take n1)++((y2.drop 0).take n2)++((y3.drop 0).take n3)++((y4.drop 0).take n4)++((y5.drop 0).take n5)++((y6.drop 0).take n6)++((y7.drop 0).take n7)=catL [y1,y2,y3,y4,y5,y6,y7]:=by simp only[catL,dt0 y1 n1 h1,dt0 y2 n2 h2,dt0 y3 n3 h3,dt0 y4 n4 h4,dt0 y5 n5 h5,dt0 y6 n6 h6,dt0 y7 n7 h7,List.append_assoc,List.append_nil,List.nil_append]
 refine Runs.bI ah mixed 2 (s0 y1 n1 t1 y2 n2 t2 y3 n3 t3 y4 n4 t4 y5 n5 t5 y6 n6 t6 y7 n7 t7 ty ) trivial (ids0 y1 n1 t1 y2 n2 t2 y3 n3 t3 y4 n4 t4 y5 n5 t5 y6 n6 t6 y7 n7 t7 ty ) rfl fun g=> ?_
 rw[suf_eq]
 refine Runs.seq (Runs.seq (Runs.ak ah mixed (a14 y1 n1 t1 y2 n2 t2 y3 n3 t3 y4 n4 t4 y5 n5 t5 y6 n6 t6 y7 n7 t7 ty g) trivial (ids1 y1 n1 t1 y2 n2 t2 y3 n3 t3 y4 n4 t4 y5 n5 t5 y6 n6 t6 y7 n7 t7 ty ) rfl fun g=> ?_))
 refine Runs.block ?_
 refine Runs.loopX (Mx y1 n1 t1 y2 n2 t2 y3 n3 t3 y4 n4 t4 y5 n5 t5 y6 n6 t6 y7 n7 t7 ty ) (Bx y1 n1 t1 y2 n2 t2 y3 n3 t3 y4 n4 t4 y5 n5 t5 y6 n6 t6 y7 n7 t7 ty ) (fun i=>i≤7) (fun i=>7-i) ?_ 0 (by omega) g
 intro i g hi
 obtain rfl | rfl | rfl | rfl | rfl | rfl | rfl | rfl:i=0∨i=1∨i=2∨i=3∨i=4∨i=5∨i=6∨i=7:=by omega
 ·exact Runs.ak ah mixed (i0 y1 n1 t1 y2 n2 t2 y3 n3 t3 y4 n4 t4 y5 n5 t5 y6 n6 t6 y7 n7 t7 ty g) ⟨by omega,h0,roomU _ (by omega),trivial⟩ (ids2 y1 n1 t1 y2 n2 t2 y3 n3 t3 y4 n4 t4 y5 n5 t5 y6 n6 t6 y7 n7 t7 ty _ _ _ _ _) rfl fun g=>⟨1,g,rfl,rfl,by omega,by omega⟩
 ·refine Runs.room 8 (n1+n2) (own:=true) (ty:=5) (kd:= .u8) (xs:=((y1.drop 0).take n1)) (lo:=n1) rfl ?_ ?_
  ·exact Runs.ak ah mixed (i1 y1 n1 t1 y2 n2 t2 y3 n3 t3 y4 n4 t4 y5 n5 t5 y6 n6 t6 y7 n7 t7 ty (((y1.drop 0).take n1)) (n1) g) ⟨by omega,(by simp only[List.length_append,List.length_nil,el1,el2,el3,el4,el5,el6,el7];try omega),by omega,trivial⟩ (ids2 y1 n1 t1 y2 n2 t2 y3 n3 t3 y4 n4 t4 y5 n5 t5 y6 n6 t6 y7 n7 t7 ty _ _ _ _ _) rfl fun g=>⟨2,g,rfl,rfl,by omega,by omega⟩
  ·exact Runs.bA ah mixed _ (j1 y1 n1 t1 y2 n2 t2 y3 n3 t3 y4 n4 t4 y5 n5 t5 y6 n6 t6 y7 n7 t7 ty (((y1.drop 0).take n1)) (n1) (n1) g) ⟨by omega,(by simp only[List.length_append,List.length_nil,el1,el2,el3,el4,el5,el6,el7];try omega),by omega,roomU _ (by omega),trivial⟩ (ids2 y1 n1 t1 y2 n2 t2 y3 n3 t3 y4 n4 t4 y5 n5 t5 y6 n6 t6 y7 n7 t7 ty _ _ _ _ _) rfl fun g=>⟨2,g,rfl,rfl,by omega,by omega⟩
 ·refine Runs.room 8 (n1+n2+n3) (own:=true) (ty:=5) (kd:= .u8) (xs:=((y1.drop 0).take n1)++((y2.drop 0).take n2)) (lo:=n1+n2) rfl ?_ ?_
  ·exact Runs.ak ah mixed (i2 y1 n1 t1 y2 n2 t2 y3 n3 t3 y4 n4 t4 y5 n5 t5 y6 n6 t6 y7 n7 t7 ty (((y1.drop 0).take n1)++((y2.drop 0).take n2)) (n1+n2) g) ⟨by omega,(by simp only[List.length_append,List.length_nil,el1,el2,el3,el4,el5,el6,el7];try omega),by omega,trivial⟩ (ids2 y1 n1 t1 y2 n2 t2 y3 n3 t3 y4 n4 t4 y5 n5 t5 y6 n6 t6 y7 n7 t7 ty _ _ _ _ _) rfl fun g=>⟨3,g,rfl,rfl,by omega,by omega⟩
  ·exact Runs.bA ah mixed _ (j2 y1 n1 t1 y2 n2 t2 y3 n3 t3 y4 n4 t4 y5 n5 t5 y6 n6 t6 y7 n7 t7 ty (((y1.drop 0).take n1)++((y2.drop 0).take n2)) (n1+n2) (n1+n2) g) ⟨by omega,(by simp only[List.length_append,List.length_nil,el1,el2,el3,el4,el5,el6,el7];try omega),by omega,roomU _ (by omega),trivial⟩ (ids2 y1 n1 t1 y2 n2 t2 y3 n3 t3 y4 n4 t4 y5 n5 t5 y6 n6 t6 y7 n7 t7 ty _ _ _ _ _) rfl fun g=>⟨3,g,rfl,rfl,by omega,by omega⟩
 ·refine Runs.room 8 (n1+n2+n3+n4) (own:=true) (ty:=5) (kd:= .u8) (xs:=((y1.drop 0).take n1)++((y2.drop 0).take n2)++((y3.drop 0).take n3)) (lo:=n1+n2+n3) rfl ?_ ?_
  ·exact Runs.ak ah mixed (i3 y1 n1 t1 y2 n2 t2 y3 n3 t3 y4 n4 t4 y5 n5 t5 y6 n6 t6 y7 n7 t7 ty (((y1.drop 0).take n1)++((y2.drop 0).take n2)++((y3.drop 0).take n3)) (n1+n2+n3) g) ⟨by omega,(by simp only[List.length_append,List.length_nil,el1,el2,el3,el4,el5,el6,el7];try omega),by omega,trivial⟩ (ids2 y1 n1 t1 y2 n2 t2 y3 n3 t3 y4 n4 t4 y5 n5 t5 y6 n6 t6 y7 n7 t7 ty _ _ _ _ _) rfl fun g=>⟨4,g,rfl,rfl,by omega,by omega⟩
  ·exact Runs.bA ah mixed _ (j3 y1 n1 t1 y2 n2 t2 y3 n3 t3 y4 n4 t4 y5 n5 t5 y6 n6 t6 y7 n7 t7 ty (((y1.drop 0).take n1)++((y2.drop 0).take n2)++((y3.drop 0).take n3)) (n1+n2+n3) (n1+n2+n3) g) ⟨by omega,(by simp only[List.length_append,List.length_nil,el1,el2,el3,el4,el5,el6,el7];try omega),by omega,roomU _ (by omega),trivial⟩ (ids2 y1 n1 t1 y2 n2 t2 y3 n3 t3 y4 n4 t4 y5 n5 t5 y6 n6 t6 y7 n7 t7 ty _ _ _ _ _) rfl fun g=>⟨4,g,rfl,rfl,by omega,by omega⟩
 ·refine Runs.room 8 (n1+n2+n3+n4+n5) (own:=true) (ty:=5) (kd:= .u8) (xs:=((y1.drop 0).take n1)++((y2.drop 0).take n2)++((y3.drop 0).take n3)++((y4.drop 0).take n4)) (lo:=n1+n2+n3+n4) rfl ?_ ?_
  ·exact Runs.ak ah mixed (i4 y1 n1 t1 y2 n2 t2 y3 n3 t3 y4 n4 t4 y5 n5 t5 y6 n6 t6 y7 n7 t7 ty (((y1.drop 0).take n1)++((y2.drop 0).take n2)++((y3.drop 0).take n3)++((y4.drop 0).take n4)) (n1+n2+n3+n4) g) ⟨by omega,(by simp only[List.length_append,List.length_nil,el1,el2,el3,el4,el5,el6,el7];try omega),by omega,trivial⟩ (ids2 y1 n1 t1 y2 n2 t2 y3 n3 t3 y4 n4 t4 y5 n5 t5 y6 n6 t6 y7 n7 t7 ty _ _ _ _ _) rfl fun g=>⟨5,g,rfl,rfl,by omega,by omega⟩
  ·exact Runs.bA ah mixed _ (j4 y1 n1 t1 y2 n2 t2 y3 n3 t3 y4 n4 t4 y5 n5 t5 y6 n6 t6 y7 n7 t7 ty (((y1.drop 0).take n1)++((y2.drop 0).take n2)++((y3.drop 0).take n3)++((y4.drop 0).take n4)) (n1+n2+n3+n4) (n1+n2+n3+n4) g) ⟨by omega,(by simp only[List.length_append,List.length_nil,el1,el2,el3,el4,el5,el6,el7];try omega),by omega,roomU _ (by omega),trivial⟩ (ids2 y1 n1 t1 y2 n2 t2 y3 n3 t3 y4 n4 t4 y5 n5 t5 y6 n6 t6 y7 n7 t7 ty _ _ _ _ _) rfl fun g=>⟨5,g,rfl,rfl,by omega,by omega⟩
 ·refine Runs.room 8 (n1+n2+n3+n4+n5+n6) (own:=true) (ty:=5) (kd:= .u8) (xs:=((y1.drop 0).take n1)++((y2.drop 0).take n2)++((y3.drop 0).take n3)++((y4.drop 0).take n4)++((y5.drop 0).take n5)) (lo:=n1+n2+n3+n4+n5) rfl ?_ ?_
  ·exact Runs.ak ah mixed (i5 y1 n1 t1 y2 n2 t2 y3 n3 t3 y4 n4 t4 y5 n5 t5 y6 n6 t6 y7 n7 t7 ty (((y1.drop 0).take n1)++((y2.drop 0).take n2)++((y3.drop 0).take n3)++((y4.drop 0).take n4)++((y5.drop 0).take n5)) (n1+n2+n3+n4+n5) g) ⟨by omega,(by simp only[List.length_append,List.length_nil,el1,el2,el3,el4,el5,el6,el7];try omega),by omega,trivial⟩ (ids2 y1 n1 t1 y2 n2 t2 y3 n3 t3 y4 n4 t4 y5 n5 t5 y6 n6 t6 y7 n7 t7 ty _ _ _ _ _) rfl fun g=>⟨6,g,rfl,rfl,by omega,by omega⟩
  ·exact Runs.bA ah mixed _ (j5 y1 n1 t1 y2 n2 t2 y3 n3 t3 y4 n4 t4 y5 n5 t5 y6 n6 t6 y7 n7 t7 ty (((y1.drop 0).take n1)++((y2.drop 0).take n2)++((y3.drop 0).take n3)++((y4.drop 0).take n4)++((y5.drop 0).take n5)) (n1+n2+n3+n4+n5) (n1+n2+n3+n4+n5) g) ⟨by omega,(by simp only[List.length_append,List.length_nil,el1,el2,el3,el4,el5,el6,el7];try omega),by omega,roomU _ (by omega),trivial⟩ (ids2 y1 n1 t1 y2 n2 t2 y3 n3 t3 y4 n4 t4 y5 n5 t5 y6 n6 t6 y7 n7 t7 ty _ _ _ _ _) rfl fun g=>⟨6,g,rfl,rfl,by omega,by omega⟩
 ·refine Runs.room 8 (n1+n2+n3+n4+n5+n6+n7) (own:=true) (ty:=5) (kd:= .u8) (xs:=((y1.drop 0).take n1)++((y2.drop 0).take n2)++((y3.drop 0).take n3)++((y4.drop 0).take n4)++((y5.drop 0).take n5)++((y6.drop 0).take n6)) (lo:=n1+n2+n3+n4+n5+n6) rfl ?_ ?_
  ·exact Runs.ak ah mixed (i6 y1 n1 t1 y2 n2 t2 y3 n3 t3 y4 n4 t4 y5 n5 t5 y6 n6 t6 y7 n7 t7 ty (((y1.drop 0).take n1)++((y2.drop 0).take n2)++((y3.drop 0).take n3)++((y4.drop 0).take n4)++((y5.drop 0).take n5)++((y6.drop 0).take n6)) (n1+n2+n3+n4+n5+n6) g) ⟨by omega,(by simp only[List.length_append,List.length_nil,el1,el2,el3,el4,el5,el6,el7];try omega),by omega,trivial⟩ (ids2 y1 n1 t1 y2 n2 t2 y3 n3 t3 y4 n4 t4 y5 n5 t5 y6 n6 t6 y7 n7 t7 ty _ _ _ _ _) rfl fun g=>⟨7,g,rfl,rfl,by omega,by omega⟩
  ·exact Runs.bA ah mixed _ (j6 y1 n1 t1 y2 n2 t2 y3 n3 t3 y4 n4 t4 y5 n5 t5 y6 n6 t6 y7 n7 t7 ty (((y1.drop 0).take n1)++((y2.drop 0).take n2)++((y3.drop 0).take n3)++((y4.drop 0).take n4)++((y5.drop 0).take n5)++((y6.drop 0).take n6)) (n1+n2+n3+n4+n5+n6) (n1+n2+n3+n4+n5+n6) g) ⟨by omega,(by simp only[List.length_append,List.length_nil,el1,el2,el3,el4,el5,el6,el7];try omega),by omega,roomU _ (by omega),trivial⟩ (ids2 y1 n1 t1 y2 n2 t2 y3 n3 t3 y4 n4 t4 y5 n5 t5 y6 n6 t6 y7 n7 t7 ty _ _ _ _ _) rfl fun g=>⟨7,g,rfl,rfl,by omega,by omega⟩
 ·refine Runs.ak ah mixed (hz y1 n1 t1 y2 n2 t2 y3 n3 t3 y4 n4 t4 y5 n5 t5 y6 n6 t6 y7 n7 t7 ty (((y1.drop 0).take n1)++((y2.drop 0).take n2)++((y3.drop 0).take n3)++((y4.drop 0).take n4)++((y5.drop 0).take n5)++((y6.drop 0).take n6)++((y7.drop 0).take n7)) (n1+n2+n3+n4+n5+n6+n7) (n1+n2+n3+n4+n5+n6+n7) g) trivial (idsZ y1 n1 t1 y2 n2 t2 y3 n3 t3 y4 n4 t4 y5 n5 t5 y6 n6 t6 y7 n7 t7 ty _ _ _ _) rfl fun g=> ?_
  refine Runs.aH ah mixed (d y1 n1 t1 y2 n2 t2 y3 n3 t3 y4 n4 t4 y5 n5 t5 y6 n6 t6 y7 n7 t7 ty _ _ _ g) trivial (aD.ret (res y1 n1 t1 y2 n2 t2 y3 n3 t3 y4 n4 t4 y5 n5 t5 y6 n6 t6 y7 n7 t7 ty _ _ _ g) ⟨8,?_,?_⟩)
  ·rw[hE]
   rfl
  ·rw[row,hD,hE]
noncomputable def D:Dec Tryz.prog LstA:=Dec.listV Tryz.prog .u8 [true,true,true,true,true,true,true] (fun ls=> .o (.a (.slg 0 (catL ls).length))) (fun ls=> .new 5 (.gro .u8 (catL ls) (catL ls).length none)) (fun ls=>[0<(ls.headD []).length,(catL ls).length≤140737488355328]) (fun ls=>rfl)
noncomputable def con:Con Tryz.prog G2:=Con.hand ah 49 fn Tryz.func49 (by kernel_rfl) (c:=body) (by kernel_rfl) D
 (fun x hc hi=>by
  obtain⟨its,m,ty⟩:=x
  obtain⟨⟨hs,hn,hy⟩,hv⟩:=hi
  have hp:=(aL hc).2
  simp only at hs hn hy hp hv
  obtain⟨a1,t1,rfl,q1⟩:=shp_w hs
  obtain⟨a2,t2,rfl,q2⟩:=shp_w q1
  obtain⟨a3,t3,rfl,q3⟩:=shp_w q2
  obtain⟨a4,t4,rfl,q4⟩:=shp_w q3
  obtain⟨a5,t5,rfl,q5⟩:=shp_w q4
  obtain⟨a6,t6,rfl,q6⟩:=shp_w q5
  obtain⟨a7,t7,rfl,q7⟩:=shp_w q6
  obtain rfl:=shp_n q7
  have hn:m=7:=hn
  subst hn
  have h1:=hy a1 (by simp[bq])
  exact walk a1.ys a1.n a1.ty a2.ys a2.n a2.ty a3.ys a3.n a3.ty a4.ys a4.n a4.ty a5.ys a5.n a5.ty a6.ys a6.n a6.ty a7.ys a7.n a7.ty ty (hy a1 (by simp[bq])) (hy a2 (by simp[bq])) (hy a3 (by simp[bq])) (hy a4 (by simp[bq])) (hy a5 (by simp[bq])) (hy a6 (by simp[bq])) (hy a7 (by simp[bq])) (by have:=hp.1;rw[←h1];exact this) hp.2.1)
end wwwwwww
end jn
end Go.Proofs.YtbfndladaldajaaGreatDoor
