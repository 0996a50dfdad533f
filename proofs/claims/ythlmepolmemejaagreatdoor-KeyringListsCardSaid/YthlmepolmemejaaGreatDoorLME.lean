/- Packages eddsa, beaconref01: lists of slices: Hash and Join: walks, contracts. -/
import Derived.Test.YthlmepolmemejaaGreatDoorLFo
import Derived.Test.YthlmepolmemejaaGreatDoorLMT
import Derived.Test.YthlmepolmemejaaGreatDoorLMA
set_option linter.unusedSimpArgs false
set_option linter.unusedVariables false
namespace Go.Proofs.YthlmepolmemejaaGreatDoor
open Go Go.Eng Go.RowKit
set_option maxRecDepth 100000
theorem qI (n:Nat) (h:n≤140737488355328):Room Tryz.prog 5 n:=by
 have h1:(Tryz.prog.info? 5).map (·.bytes)=some 1:=by kernel_rfl
 cases hq:Tryz.prog.info? 5 with
 | none=>rw[hq] at h1;cases h1
 | some j=>
  rw[hq] at h1
  have:j.bytes=1:=by simpa using h1
  exact⟨j,hq,by rw[this];omega,by omega⟩
noncomputable def gq (ys:List Int):B32:=fO (fJ (fP ys).at 8 8)
theorem outD_byte (h:E8):∀i,0≤(outD h).at i∧(outD h).at i<256:=by
 have hb:∀w s,0≤aF w s∧aF w s<256:=fun w s=>by
  unfold aF
  rw[IntKind.wrap_u8]
  omega
 intro i
 unfold B64.at
 split<;>exact hb _ _
theorem sI (ys:List Int):∀i,0≤(fP ys).at i∧(fP ys).at i<256:=outD_byte _
namespace hsh
noncomputable abbrev fn:=Tryz.f46
noncomputable def body:Code:=bZ fn
noncomputable def Γ:Cons Tryz.prog G2:=[s512_con,scReduce_con]
noncomputable def A14:Code:=cs1 (cs1 (bY 2 body))
noncomputable def L:Code:=cL (cB (cs2 (cs1 (bY 2 body))))
noncomputable def D:Code:=cs2 (bY 2 body)
theorem fV:bY 2 body= .seq (.seq A14 (.block 0 (.loop L))) D:=by kernel_rfl
namespace ww
section
variable (y1:List Int) (n1:Nat) (t1:TypeId) (y2:List Int) (n2:Nat) (t2:TypeId) (ty:TypeId)
def args:List Blk:=[⟨false,ty,.lit [.slg 1 n1,.slg 2 n2]⟩,⟨false,t1,.pre .u8 y1⟩,⟨false,t2,.pre .u8 y2⟩]
def aS:List Blk:=args y1 n1 t1 y2 n2 t2 ty++[⟨true,26,.lit (ak.row (aM))⟩]
def mem (D:List Int) (lo:Nat) (hi:Option Nat):List Blk:=aS y1 n1 t1 y2 n2 t2 ty++[⟨true,5,.gro .u8 D lo hi⟩]
end
def M0:List (Option SV):=aJ 19 0 [(0,.o (.a (.slc 0 0 2 2))),(2,.o (.a (.ptr 3 0))),(3,.o (.a (.v (.slice none 0 0))))]
def M1:List (Option SV):=aJ 19 0 [(2,.o (.a (.ptr 3 0))),(3,.o (.a (.v (.slice none 0 0)))),(6,.o (.a (.slc 0 0 2 2))),(7,.o (.a (.v (.int .i64 2)))),(8,.o (.a (.v (.int .i64 0))))]
def M2 (i:Int) (n:Nat):List (Option SV):=aJ 19 0 [(2,.o (.a (.ptr 3 0))),(3,.o (.a (.slg 4 n))),(6,.o (.a (.slc 0 0 2 2))),(7,.o (.a (.v (.int .i64 2)))),(8,.o (.a (.v (.int .i64 i))))]
def MZ (n:Nat):List (Option SV):=aJ 19 0 [(2,.o (.a (.ptr 3 0))),(3,.o (.a (.slg 4 n)))]
section
variable (y1:List Int) (n1:Nat) (t1:TypeId) (y2:List Int) (n2:Nat) (t2:TypeId) (ty:TypeId)
theorem jy:oI M0 (aS y1 n1 t1 y2 n2 t2 ty):=by delta oI;kernel_rfl
theorem eT:oI M1 (aS y1 n1 t1 y2 n2 t2 ty):=by delta oI;kernel_rfl
theorem fu (D:List Int) (n lo:Nat) (hi:Option Nat) (i:Int):oI (M2 i n) (mem y1 n1 t1 y2 n2 t2 ty D lo hi):=by delta oI;kernel_rfl
theorem idsZ (D:List Int) (n lo:Nat) (hi:Option Nat):oI (MZ n) (mem y1 n1 t1 y2 n2 t2 ty D lo hi):=by delta oI;kernel_rfl
theorem s0:oX Γ 100 (dU 2 body) (aH fn [.o (.a (.slc 0 0 2 2))]) (args y1 n1 t1 y2 n2 t2 ty) [] .normal M0 (aS y1 n1 t1 y2 n2 t2 ty) []:=by delta oX;kernel_rfl
theorem a14 (g:Nat→SV):oX Γ 100 A14 (fill g 0 (M0)) (aS y1 n1 t1 y2 n2 t2 ty) [] .normal M1 (aS y1 n1 t1 y2 n2 t2 ty) []:=by delta oX;kernel_rfl
theorem i0 (g:Nat→SV):oX Γ 100 L (fill g 0 (M1)) (aS y1 n1 t1 y2 n2 t2 ty) [] .normal (M2 1 n1) (mem y1 n1 t1 y2 n2 t2 ty ((y1.drop 0).take n1) n1 none) [0+n1≤y1.length,0<n1,Room Tryz.prog 5 n1]:=by delta oX;kernel_rfl
theorem i1 (D:List Int) (n:Nat) (g:Nat→SV):oX Γ 100 L (fill g 0 (M2 1 n)) (mem y1 n1 t1 y2 n2 t2 ty D (n+n2) none) [] .normal (M2 2 (n+n2)) (mem y1 n1 t1 y2 n2 t2 ty (D++((y2.drop 0).take n2)) (n+n2) none) [0+n2≤y2.length,n=D.length,n+n2≤n+n2]:=by delta oX;kernel_rfl
theorem j1 (D:List Int) (n lo:Nat) (g:Nat→SV):oN [0,1,2,3,5] Γ 100 L (fill g 0 (M2 1 n)) (mem y1 n1 t1 y2 n2 t2 ty D lo (some (n+n2))) [] .normal (M2 2 (n+n2)) (mem y1 n1 t1 y2 n2 t2 ty (D++((y2.drop 0).take n2)) (n+n2) none) [0+n2≤y2.length,n=D.length,n+n2≤n+n2,Room Tryz.prog 5 (n+n2)]:=by delta oN;kernel_rfl
theorem hz (D:List Int) (n lo:Nat) (g:Nat→SV):oX Γ 100 L (fill g 0 (M2 2 n)) (mem y1 n1 t1 y2 n2 t2 ty D lo none) [] (.exit 0) (MZ n) (mem y1 n1 t1 y2 n2 t2 ty D lo none) []:=by delta oX;kernel_rfl
noncomputable def fin (d:B64) (r:B32) (D:List Int) (n lo:Nat) (g:Nat→SV):St:=dz Γ tys 100 hsh.D ⟨fill g 0 (MZ n),mem y1 n1 t1 y2 n2 t2 ty D lo none,[(17,[.s (bU.enc d)]),(18,[.s (ak.enc r)])]⟩
end
theorem d (y1:List Int) (n1:Nat) (t1:TypeId) (y2:List Int) (n2:Nat) (t2:TypeId) (ty:TypeId) (d:B64) (r:B32) (D:List Int) (n lo:Nat) (g:Nat→SV):exec Γ tys 100 hsh.D ⟨fill g 0 (MZ n),mem y1 n1 t1 y2 n2 t2 ty D lo none,[(17,[.s (bU.enc d)]),(18,[.s (ak.enc r)])]⟩=some (.ret,⟨(fin y1 n1 t1 y2 n2 t2 ty d r D n lo g).tm,(fin y1 n1 t1 y2 n2 t2 ty d r D n lo g).mem,[(17,[]),(18,[])]⟩,[0+n≤D.length,n≤lo,bU.enc (fP ((D.drop 0).take n))=bU.enc d,∀i,0≤d.at i∧d.at i<256,ak.enc (fO (fJ d.at 8 8))=ak.enc r]):=by kernel_rfl
theorem res (y1:List Int) (n1:Nat) (t1:TypeId) (y2:List Int) (n2:Nat) (t2:TypeId) (ty:TypeId) (d:B64) (r:B32) (D:List Int) (n lo:Nat) (g:Nat→SV):eRes tys (fin y1 n1 t1 y2 n2 t2 ty d r D n lo g).tm (fun k=>(fin y1 n1 t1 y2 n2 t2 ty d r D n lo g).mem[k]?) fn.results.toList=some [.g (ak.row r)]:=by kernel_rfl
def Mx (n1:Nat) (n2:Nat):Nat→List (Option SV)
 | 0=>M1
 | 1=>M2 1 (n1)
 | _=>M2 2 (n1+n2)
def Bx (y1:List Int) (n1:Nat) (t1:TypeId) (y2:List Int) (n2:Nat) (t2:TypeId) (ty:TypeId):Nat→List Blk
 | 0=>aS y1 n1 t1 y2 n2 t2 ty
 | 1=>mem y1 n1 t1 y2 n2 t2 ty (((y1.drop 0).take n1)) (n1) none
 | _=>mem y1 n1 t1 y2 n2 t2 ty (((y1.drop 0).take n1)++((y2.drop 0).take n2)) (n1+n2) none
theorem walk (y1:List Int) (n1:Nat) (t1:TypeId) (y2:List Int) (n2:Nat) (t2:TypeId) (ty:TypeId) (h1:y1.length=n1) (h2:y2.length=n2) (h0:0<n1) (hT:(aZ [y1,y2]).length≤140737488355328):
  aK Tryz.prog G2 3 body (aH fn [.o (.a (.slc 0 0 2 2))]) (args y1 n1 t1 y2 n2 t2 ty ) (aN tys fn (bA (ak.enc (gq (aZ [y1,y2]))) .none)):=by
 have hE:(aZ [y1,y2]).length=n1+n2:=by simp only[aZ,List.length_append,List.length_nil];omega
 have el1:((y1.drop 0).take n1).length=n1:=by rw[dt0 y1 n1 h1];exact h1
 have el2:((y2.drop 0).take n2).length=n2:=by rw[dt0 y2 n2 h2];exact h2
 have hD:((y1.drop 0).take n1)++((y2.drop 0).take n2)=aZ [y1,y2]:=by simp only[aZ,dt0 y1 n1 h1,dt0 y2 n2 h2,List.append_assoc,List.append_nil]
 refine Runs.bS ah mixed 2 (s0 y1 n1 t1 y2 n2 t2 ty ) trivial (jy y1 n1 t1 y2 n2 t2 ty ) rfl fun g=> ?_
 rw[fV]
 refine Runs.seq (Runs.seq (Runs.au ah mixed (a14 y1 n1 t1 y2 n2 t2 ty g) trivial (eT y1 n1 t1 y2 n2 t2 ty ) rfl fun g=> ?_))
 refine Runs.block ?_
 refine Runs.dS (Mx n1 n2 ) (Bx y1 n1 t1 y2 n2 t2 ty ) (fun i=>i≤2) (fun i=>2-i) ?_ 0 (by omega) g
 intro i g hi
 obtain rfl | rfl | rfl:i=0∨i=1∨i=2:=by omega
 ·exact Runs.au ah mixed (i0 y1 n1 t1 y2 n2 t2 ty g) ⟨by omega,h0,qI _ (by omega),trivial⟩ (fu y1 n1 t1 y2 n2 t2 ty _ _ _ _ _) rfl fun g=>⟨1,g,rfl,rfl,by omega,by omega⟩
 ·refine Runs.room 4 (n1+n2) (own:=true) (ty:=5) (kd:= .u8) (xs:=((y1.drop 0).take n1)) (lo:=n1) rfl ?_ ?_
  ·exact Runs.au ah mixed (i1 y1 n1 t1 y2 n2 t2 ty (((y1.drop 0).take n1)) (n1) g) ⟨by omega,(by simp only[List.length_append,List.length_nil,el1,el2];try omega),by omega,trivial⟩ (fu y1 n1 t1 y2 n2 t2 ty _ _ _ _ _) rfl fun g=>⟨2,g,rfl,rfl,by omega,by omega⟩
  ·exact Runs.bW ah mixed _ (j1 y1 n1 t1 y2 n2 t2 ty (((y1.drop 0).take n1)) (n1) (n1) g) ⟨by omega,(by simp only[List.length_append,List.length_nil,el1,el2];try omega),by omega,qI _ (by omega),trivial⟩ (fu y1 n1 t1 y2 n2 t2 ty _ _ _ _ _) rfl fun g=>⟨2,g,rfl,rfl,by omega,by omega⟩
 ·refine Runs.au ah mixed (hz y1 n1 t1 y2 n2 t2 ty (((y1.drop 0).take n1)++((y2.drop 0).take n2)) (n1+n2) (n1+n2) g) trivial (idsZ y1 n1 t1 y2 n2 t2 ty _ _ _ _) rfl fun g=> ?_
  have hd:(((((y1.drop 0).take n1)++((y2.drop 0).take n2)).drop 0).take (n1+n2))=aZ [y1,y2]:=by rw[dt0 _ _ (by rw[hD,hE]),hD]
  exact Runs.aQ ah mixed (d y1 n1 t1 y2 n2 t2 ty (fP (aZ [y1,y2])) (gq (aZ [y1,y2])) _ _ _ g) ⟨by rw[hD,hE];omega,Nat.le_refl _,congrArg (fun v=>bU.enc (fP v)) hd,sI _,rfl,trivial⟩ (aN.ret (res y1 n1 t1 y2 n2 t2 ty _ _ _ _ _ g) rfl)
def D (H:List Int→B32):Dec Tryz.prog LstA:=Dec.listV Tryz.prog .u8 [true,true] (fun ls=>ak.enc (H (aZ ls))) (fun _=> .none) (fun ls=>[0<(ls.headD []).length,(aZ ls).length≤140737488355328]) (fun ls=>rfl)
noncomputable def con (H:List Int→B32) (hH:H=gq):Con Tryz.prog G2:=Con.hand ah 46 fn Tryz.func46 (by kernel_rfl) (c:=body) (by kernel_rfl) (D H)
 (fun x hc hi=>by
  subst hH
  obtain⟨its,m,ty⟩:=x
  obtain⟨⟨hs,hn,hy⟩,hv⟩:=hi
  have hp:=(aR hc).2
  simp only at hs hn hy hp hv
  obtain⟨a1,t1,rfl,q1⟩:=oh hs
  obtain⟨a2,t2,rfl,q2⟩:=oh q1
  obtain rfl:=shp_n q2
  have hn:m=2:=hn
  subst hn
  have h1:=hy a1 (by simp[dR])
  exact walk a1.ys a1.n a1.ty a2.ys a2.n a2.ty ty (hy a1 (by simp[dR])) (hy a2 (by simp[dR])) (by have:=hp.1;rw[←h1];exact this) hp.2.1)
theorem con_fr (H:List Int→B32) (hH:H=gq):∀m fr fr' args,(con H hH).spec m fr args=none→(con H hH).spec m fr' args=none:=fun _ _ _ _ h=>Con.xU _ _ _ _ _ _ _ _ _ _ _ _ h
end ww
namespace www
section
variable (y1:List Int) (n1:Nat) (t1:TypeId) (y2:List Int) (n2:Nat) (t2:TypeId) (y3:List Int) (n3:Nat) (t3:TypeId) (ty:TypeId)
def args:List Blk:=[⟨false,ty,.lit [.slg 1 n1,.slg 2 n2,.slg 3 n3]⟩,⟨false,t1,.pre .u8 y1⟩,⟨false,t2,.pre .u8 y2⟩,⟨false,t3,.pre .u8 y3⟩]
def aS:List Blk:=args y1 n1 t1 y2 n2 t2 y3 n3 t3 ty++[⟨true,26,.lit (ak.row (aM))⟩]
def mem (D:List Int) (lo:Nat) (hi:Option Nat):List Blk:=aS y1 n1 t1 y2 n2 t2 y3 n3 t3 ty++[⟨true,5,.gro .u8 D lo hi⟩]
end
def M0:List (Option SV):=aJ 19 0 [(0,.o (.a (.slc 0 0 3 3))),(2,.o (.a (.ptr 4 0))),(3,.o (.a (.v (.slice none 0 0))))]
def M1:List (Option SV):=aJ 19 0 [(2,.o (.a (.ptr 4 0))),(3,.o (.a (.v (.slice none 0 0)))),(6,.o (.a (.slc 0 0 3 3))),(7,.o (.a (.v (.int .i64 3)))),(8,.o (.a (.v (.int .i64 0))))]
def M2 (i:Int) (n:Nat):List (Option SV):=aJ 19 0 [(2,.o (.a (.ptr 4 0))),(3,.o (.a (.slg 5 n))),(6,.o (.a (.slc 0 0 3 3))),(7,.o (.a (.v (.int .i64 3)))),(8,.o (.a (.v (.int .i64 i))))]
def MZ (n:Nat):List (Option SV):=aJ 19 0 [(2,.o (.a (.ptr 4 0))),(3,.o (.a (.slg 5 n)))]
section
variable (y1:List Int) (n1:Nat) (t1:TypeId) (y2:List Int) (n2:Nat) (t2:TypeId) (y3:List Int) (n3:Nat) (t3:TypeId) (ty:TypeId)
theorem jy:oI M0 (aS y1 n1 t1 y2 n2 t2 y3 n3 t3 ty):=by delta oI;kernel_rfl
theorem eT:oI M1 (aS y1 n1 t1 y2 n2 t2 y3 n3 t3 ty):=by delta oI;kernel_rfl
theorem fu (D:List Int) (n lo:Nat) (hi:Option Nat) (i:Int):oI (M2 i n) (mem y1 n1 t1 y2 n2 t2 y3 n3 t3 ty D lo hi):=by delta oI;kernel_rfl
theorem idsZ (D:List Int) (n lo:Nat) (hi:Option Nat):oI (MZ n) (mem y1 n1 t1 y2 n2 t2 y3 n3 t3 ty D lo hi):=by delta oI;kernel_rfl
theorem s0:oX Γ 100 (dU 2 body) (aH fn [.o (.a (.slc 0 0 3 3))]) (args y1 n1 t1 y2 n2 t2 y3 n3 t3 ty) [] .normal M0 (aS y1 n1 t1 y2 n2 t2 y3 n3 t3 ty) []:=by delta oX;kernel_rfl
theorem a14 (g:Nat→SV):oX Γ 100 A14 (fill g 0 (M0)) (aS y1 n1 t1 y2 n2 t2 y3 n3 t3 ty) [] .normal M1 (aS y1 n1 t1 y2 n2 t2 y3 n3 t3 ty) []:=by delta oX;kernel_rfl
theorem i0 (g:Nat→SV):oX Γ 100 L (fill g 0 (M1)) (aS y1 n1 t1 y2 n2 t2 y3 n3 t3 ty) [] .normal (M2 1 n1) (mem y1 n1 t1 y2 n2 t2 y3 n3 t3 ty ((y1.drop 0).take n1) n1 none) [0+n1≤y1.length,0<n1,Room Tryz.prog 5 n1]:=by delta oX;kernel_rfl
theorem i1 (D:List Int) (n:Nat) (g:Nat→SV):oX Γ 100 L (fill g 0 (M2 1 n)) (mem y1 n1 t1 y2 n2 t2 y3 n3 t3 ty D (n+n2) none) [] .normal (M2 2 (n+n2)) (mem y1 n1 t1 y2 n2 t2 y3 n3 t3 ty (D++((y2.drop 0).take n2)) (n+n2) none) [0+n2≤y2.length,n=D.length,n+n2≤n+n2]:=by delta oX;kernel_rfl
theorem j1 (D:List Int) (n lo:Nat) (g:Nat→SV):oN [0,1,2,3,4,6] Γ 100 L (fill g 0 (M2 1 n)) (mem y1 n1 t1 y2 n2 t2 y3 n3 t3 ty D lo (some (n+n2))) [] .normal (M2 2 (n+n2)) (mem y1 n1 t1 y2 n2 t2 y3 n3 t3 ty (D++((y2.drop 0).take n2)) (n+n2) none) [0+n2≤y2.length,n=D.length,n+n2≤n+n2,Room Tryz.prog 5 (n+n2)]:=by delta oN;kernel_rfl
theorem i2 (D:List Int) (n:Nat) (g:Nat→SV):oX Γ 100 L (fill g 0 (M2 2 n)) (mem y1 n1 t1 y2 n2 t2 y3 n3 t3 ty D (n+n3) none) [] .normal (M2 3 (n+n3)) (mem y1 n1 t1 y2 n2 t2 y3 n3 t3 ty (D++((y3.drop 0).take n3)) (n+n3) none) [0+n3≤y3.length,n=D.length,n+n3≤n+n3]:=by delta oX;kernel_rfl
theorem j2 (D:List Int) (n lo:Nat) (g:Nat→SV):oN [0,1,2,3,4,6] Γ 100 L (fill g 0 (M2 2 n)) (mem y1 n1 t1 y2 n2 t2 y3 n3 t3 ty D lo (some (n+n3))) [] .normal (M2 3 (n+n3)) (mem y1 n1 t1 y2 n2 t2 y3 n3 t3 ty (D++((y3.drop 0).take n3)) (n+n3) none) [0+n3≤y3.length,n=D.length,n+n3≤n+n3,Room Tryz.prog 5 (n+n3)]:=by delta oN;kernel_rfl
theorem hz (D:List Int) (n lo:Nat) (g:Nat→SV):oX Γ 100 L (fill g 0 (M2 3 n)) (mem y1 n1 t1 y2 n2 t2 y3 n3 t3 ty D lo none) [] (.exit 0) (MZ n) (mem y1 n1 t1 y2 n2 t2 y3 n3 t3 ty D lo none) []:=by delta oX;kernel_rfl
noncomputable def fin (d:B64) (r:B32) (D:List Int) (n lo:Nat) (g:Nat→SV):St:=dz Γ tys 100 hsh.D ⟨fill g 0 (MZ n),mem y1 n1 t1 y2 n2 t2 y3 n3 t3 ty D lo none,[(17,[.s (bU.enc d)]),(18,[.s (ak.enc r)])]⟩
end
theorem d (y1:List Int) (n1:Nat) (t1:TypeId) (y2:List Int) (n2:Nat) (t2:TypeId) (y3:List Int) (n3:Nat) (t3:TypeId) (ty:TypeId) (d:B64) (r:B32) (D:List Int) (n lo:Nat) (g:Nat→SV):exec Γ tys 100 hsh.D ⟨fill g 0 (MZ n),mem y1 n1 t1 y2 n2 t2 y3 n3 t3 ty D lo none,[(17,[.s (bU.enc d)]),(18,[.s (ak.enc r)])]⟩=some (.ret,⟨(fin y1 n1 t1 y2 n2 t2 y3 n3 t3 ty d r D n lo g).tm,(fin y1 n1 t1 y2 n2 t2 y3 n3 t3 ty d r D n lo g).mem,[(17,[]),(18,[])]⟩,[0+n≤D.length,n≤lo,bU.enc (fP ((D.drop 0).take n))=bU.enc d,∀i,0≤d.at i∧d.at i<256,ak.enc (fO (fJ d.at 8 8))=ak.enc r]):=by kernel_rfl
theorem res (y1:List Int) (n1:Nat) (t1:TypeId) (y2:List Int) (n2:Nat) (t2:TypeId) (y3:List Int) (n3:Nat) (t3:TypeId) (ty:TypeId) (d:B64) (r:B32) (D:List Int) (n lo:Nat) (g:Nat→SV):eRes tys (fin y1 n1 t1 y2 n2 t2 y3 n3 t3 ty d r D n lo g).tm (fun k=>(fin y1 n1 t1 y2 n2 t2 y3 n3 t3 ty d r D n lo g).mem[k]?) fn.results.toList=some [.g (ak.row r)]:=by kernel_rfl
def Mx (n1:Nat) (n2:Nat) (n3:Nat):Nat→List (Option SV)
 | 0=>M1
 | 1=>M2 1 (n1)
 | 2=>M2 2 (n1+n2)
 | _=>M2 3 (n1+n2+n3)
def Bx (y1:List Int) (n1:Nat) (t1:TypeId) (y2:List Int) (n2:Nat) (t2:TypeId) (y3:List Int) (n3:Nat) (t3:TypeId) (ty:TypeId):Nat→List Blk
 | 0=>aS y1 n1 t1 y2 n2 t2 y3 n3 t3 ty
 | 1=>mem y1 n1 t1 y2 n2 t2 y3 n3 t3 ty (((y1.drop 0).take n1)) (n1) none
 | 2=>mem y1 n1 t1 y2 n2 t2 y3 n3 t3 ty (((y1.drop 0).take n1)++((y2.drop 0).take n2)) (n1+n2) none
 | _=>mem y1 n1 t1 y2 n2 t2 y3 n3 t3 ty (((y1.drop 0).take n1)++((y2.drop 0).take n2)++((y3.drop 0).take n3)) (n1+n2+n3) none
theorem walk (y1:List Int) (n1:Nat) (t1:TypeId) (y2:List Int) (n2:Nat) (t2:TypeId) (y3:List Int) (n3:Nat) (t3:TypeId) (ty:TypeId) (h1:y1.length=n1) (h2:y2.length=n2) (h3:y3.length=n3) (h0:0<n1) (hT:(aZ [y1,y2,y3]).length≤140737488355328):
  aK Tryz.prog G2 4 body (aH fn [.o (.a (.slc 0 0 3 3))]) (args y1 n1 t1 y2 n2 t2 y3 n3 t3 ty ) (aN tys fn (bA (ak.enc (gq (aZ [y1,y2,y3]))) .none)):=by
 have hE:(aZ [y1,y2,y3]).length=n1+n2+n3:=by simp only[aZ,List.length_append,List.length_nil];omega
 have el1:((y1.drop 0).take n1).length=n1:=by rw[dt0 y1 n1 h1];exact h1
 have el2:((y2.drop 0).take n2).length=n2:=by rw[dt0 y2 n2 h2];exact h2
 have el3:((y3.drop 0).take n3).length=n3:=by rw[dt0 y3 n3 h3];exact h3
 have hD:((y1.drop 0).take n1)++((y2.drop 0).take n2)++((y3.drop 0).take n3)=aZ [y1,y2,y3]:=by simp only[aZ,dt0 y1 n1 h1,dt0 y2 n2 h2,dt0 y3 n3 h3,List.append_assoc,List.append_nil]
 refine Runs.bS ah mixed 2 (s0 y1 n1 t1 y2 n2 t2 y3 n3 t3 ty ) trivial (jy y1 n1 t1 y2 n2 t2 y3 n3 t3 ty ) rfl fun g=> ?_
 rw[fV]
 refine Runs.seq (Runs.seq (Runs.au ah mixed (a14 y1 n1 t1 y2 n2 t2 y3 n3 t3 ty g) trivial (eT y1 n1 t1 y2 n2 t2 y3 n3 t3 ty ) rfl fun g=> ?_))
 refine Runs.block ?_
 refine Runs.dS (Mx n1 n2 n3 ) (Bx y1 n1 t1 y2 n2 t2 y3 n3 t3 ty ) (fun i=>i≤3) (fun i=>3-i) ?_ 0 (by omega) g
 intro i g hi
 obtain rfl | rfl | rfl | rfl:i=0∨i=1∨i=2∨i=3:=by omega
 ·exact Runs.au ah mixed (i0 y1 n1 t1 y2 n2 t2 y3 n3 t3 ty g) ⟨by omega,h0,qI _ (by omega),trivial⟩ (fu y1 n1 t1 y2 n2 t2 y3 n3 t3 ty _ _ _ _ _) rfl fun g=>⟨1,g,rfl,rfl,by omega,by omega⟩
 ·refine Runs.room 5 (n1+n2) (own:=true) (ty:=5) (kd:= .u8) (xs:=((y1.drop 0).take n1)) (lo:=n1) rfl ?_ ?_
  ·exact Runs.au ah mixed (i1 y1 n1 t1 y2 n2 t2 y3 n3 t3 ty (((y1.drop 0).take n1)) (n1) g) ⟨by omega,(by simp only[List.length_append,List.length_nil,el1,el2,el3];try omega),by omega,trivial⟩ (fu y1 n1 t1 y2 n2 t2 y3 n3 t3 ty _ _ _ _ _) rfl fun g=>⟨2,g,rfl,rfl,by omega,by omega⟩
  ·exact Runs.bW ah mixed _ (j1 y1 n1 t1 y2 n2 t2 y3 n3 t3 ty (((y1.drop 0).take n1)) (n1) (n1) g) ⟨by omega,(by simp only[List.length_append,List.length_nil,el1,el2,el3];try omega),by omega,qI _ (by omega),trivial⟩ (fu y1 n1 t1 y2 n2 t2 y3 n3 t3 ty _ _ _ _ _) rfl fun g=>⟨2,g,rfl,rfl,by omega,by omega⟩
 ·refine Runs.room 5 (n1+n2+n3) (own:=true) (ty:=5) (kd:= .u8) (xs:=((y1.drop 0).take n1)++((y2.drop 0).take n2)) (lo:=n1+n2) rfl ?_ ?_
  ·exact Runs.au ah mixed (i2 y1 n1 t1 y2 n2 t2 y3 n3 t3 ty (((y1.drop 0).take n1)++((y2.drop 0).take n2)) (n1+n2) g) ⟨by omega,(by simp only[List.length_append,List.length_nil,el1,el2,el3];try omega),by omega,trivial⟩ (fu y1 n1 t1 y2 n2 t2 y3 n3 t3 ty _ _ _ _ _) rfl fun g=>⟨3,g,rfl,rfl,by omega,by omega⟩
  ·exact Runs.bW ah mixed _ (j2 y1 n1 t1 y2 n2 t2 y3 n3 t3 ty (((y1.drop 0).take n1)++((y2.drop 0).take n2)) (n1+n2) (n1+n2) g) ⟨by omega,(by simp only[List.length_append,List.length_nil,el1,el2,el3];try omega),by omega,qI _ (by omega),trivial⟩ (fu y1 n1 t1 y2 n2 t2 y3 n3 t3 ty _ _ _ _ _) rfl fun g=>⟨3,g,rfl,rfl,by omega,by omega⟩
 ·refine Runs.au ah mixed (hz y1 n1 t1 y2 n2 t2 y3 n3 t3 ty (((y1.drop 0).take n1)++((y2.drop 0).take n2)++((y3.drop 0).take n3)) (n1+n2+n3) (n1+n2+n3) g) trivial (idsZ y1 n1 t1 y2 n2 t2 y3 n3 t3 ty _ _ _ _) rfl fun g=> ?_
  have hd:(((((y1.drop 0).take n1)++((y2.drop 0).take n2)++((y3.drop 0).take n3)).drop 0).take (n1+n2+n3))=aZ [y1,y2,y3]:=by rw[dt0 _ _ (by rw[hD,hE]),hD]
  exact Runs.aQ ah mixed (d y1 n1 t1 y2 n2 t2 y3 n3 t3 ty (fP (aZ [y1,y2,y3])) (gq (aZ [y1,y2,y3])) _ _ _ g) ⟨by rw[hD,hE];omega,Nat.le_refl _,congrArg (fun v=>bU.enc (fP v)) hd,sI _,rfl,trivial⟩ (aN.ret (res y1 n1 t1 y2 n2 t2 y3 n3 t3 ty _ _ _ _ _ g) rfl)
def D (H:List Int→B32):Dec Tryz.prog LstA:=Dec.listV Tryz.prog .u8 [true,true,true] (fun ls=>ak.enc (H (aZ ls))) (fun _=> .none) (fun ls=>[0<(ls.headD []).length,(aZ ls).length≤140737488355328]) (fun ls=>rfl)
noncomputable def con (H:List Int→B32) (hH:H=gq):Con Tryz.prog G2:=Con.hand ah 46 fn Tryz.func46 (by kernel_rfl) (c:=body) (by kernel_rfl) (D H)
 (fun x hc hi=>by
  subst hH
  obtain⟨its,m,ty⟩:=x
  obtain⟨⟨hs,hn,hy⟩,hv⟩:=hi
  have hp:=(aR hc).2
  simp only at hs hn hy hp hv
  obtain⟨a1,t1,rfl,q1⟩:=oh hs
  obtain⟨a2,t2,rfl,q2⟩:=oh q1
  obtain⟨a3,t3,rfl,q3⟩:=oh q2
  obtain rfl:=shp_n q3
  have hn:m=3:=hn
  subst hn
  have h1:=hy a1 (by simp[dR])
  exact walk a1.ys a1.n a1.ty a2.ys a2.n a2.ty a3.ys a3.n a3.ty ty (hy a1 (by simp[dR])) (hy a2 (by simp[dR])) (hy a3 (by simp[dR])) (by have:=hp.1;rw[←h1];exact this) hp.2.1)
end www
end hsh
open Go Go.Eng
structure Sec where
 s:B32
 p:B32
 q:B32
def Sec.to (x:Sec):List Int:=x.s.to++(x.p.to++x.q.to)
def Sec.of (l:List Int):Option Sec:=match B32.of (l.take 32),B32.of ((l.drop 32).take 32),B32.of (l.drop 64) with
 | some s,some p,some q=>some ⟨s,p,q⟩
 | _,_,_=>none
theorem Sec.iV:∀l a,Sec.of l=some a→Sec.to a=l:=by
 intro l a h
 unfold Sec.of at h
 split at h<;>cases h
 rename_i s p q hs hp hq
 show s.to++(p.to++q.to)=l
 rw[B32.iV _ _ hs,B32.iV _ _ hp,B32.iV _ _ hq,show l.drop 64=(l.drop 32).drop 32 by rw[List.drop_drop],List.take_append_drop,List.take_append_drop]
def cSec:Cod Sec:=cRow .u8 Sec.to Sec.of Sec.iV
noncomputable def numV (b:B32):B32:=scalB (fP b.to)
noncomputable def pfxV (b:B32):B32:=preB (fP b.to)
noncomputable def kY (b:B32):B32:=qU (numV b)
theorem and248:∀n:Fin 256,0≤bits .and .u8 (n.val:Int) 248∧bits .and .u8 (n.val:Int) 248<256:=by decide+kernel
theorem or64:∀n:Fin 256,0≤bits .or .u8 (bits .and .u8 (n.val:Int) 127) 64∧bits .or .u8 (bits .and .u8 (n.val:Int) 127) 64<256:=by decide+kernel
theorem scalB_ok {d:B64} (h:∀i,0≤d.at i∧d.at i<256):BOk (scalB d):=by
 have e0:∀x:Int,0≤x∧x<256→Byte (bits .and .u8 x 248):=fun x hx=>by
  have:=and248 ⟨x.toNat,by omega⟩
  rwa [show((⟨x.toNat,by omega⟩:Fin 256).val:Int)=x by show(x.toNat:Int)=x;omega] at this
 have e1:∀x:Int,0≤x∧x<256→Byte (bits .or .u8 (bits .and .u8 x 127) 64):=fun x hx=>by
  have:=or64 ⟨x.toNat,by omega⟩
  rwa [show((⟨x.toNat,by omega⟩:Fin 256).val:Int)=x by show(x.toNat:Int)=x;omega] at this
 intro i
 unfold B32.at scalB
 split
 ·exact e0 _ (h 0)
 ·exact h 1
 ·exact h 2
 ·exact h 3
 ·exact h 4
 ·exact h 5
 ·exact h 6
 ·exact h 7
 ·exact h 8
 ·exact h 9
 ·exact h 10
 ·exact h 11
 ·exact h 12
 ·exact h 13
 ·exact h 14
 ·exact h 15
 ·exact h 16
 ·exact h 17
 ·exact h 18
 ·exact h 19
 ·exact h 20
 ·exact h 21
 ·exact h 22
 ·exact h 23
 ·exact h 24
 ·exact h 25
 ·exact h 26
 ·exact h 27
 ·exact h 28
 ·exact h 29
 ·exact h 30
 ·exact e1 _ (h 31)
theorem xS (b:B32):BOk (numV b):=scalB_ok (sI _)
namespace expd
noncomputable def Γ:Cons Tryz.prog G2:=[s512_con,pbase_con.lift jh]
theorem ex (b:B32) (d:B64) (p:B32):eP Γ tys Tryz.f32 100 [ak.enc b] [(6,[.s (bU.enc d)]),(30,[.s (ak.enc p)])]=some (cSec.enc ⟨scalB d,preB d,p⟩,[32≤32,32≤32,bU.enc (fP b.to)=bU.enc d,32≤64,32≤96,32≤32,32≤64,Nib (scalB d),ak.enc (pbaseB (scalB d))=ak.enc p]):=by kernel_rfl
end expd
noncomputable def secV (b:B32):Sec:=⟨numV b,pfxV b,kY b⟩
theorem expand_fn (b:B32):ay Tryz.prog G2 32 [ak.enc b] (cSec.enc (secV b)):=
 ay.aD ah mixed Tryz.func32 (expd.ex b (fP b.to) (kY b)) ⟨by omega,by omega,rfl,by omega,by omega,by omega,by omega,nib_of (xS b),congrArg ak.enc (Ap (xS b)),trivial⟩ rfl rfl
noncomputable def expand_con:Con Tryz.prog G2:=fQ 32 Tryz.f32 Tryz.func32 (by kernel_rfl) (by kernel_rfl) ak (fun b=>cSec.enc (secV b)) (fun _=>[]) (fun _=>rfl) (fun b _=>expand_fn b)
theorem public_ex (b:B32) (x:Sec):eP [expand_con] tys Tryz.f19 100 [ak.enc b] [(4,[.s (cSec.enc x)])]=some (ak.enc x.q,[cSec.enc (secV b)=cSec.enc x]):=by kernel_rfl
theorem public_fn (b:B32):ay Tryz.prog G2 19 [ak.enc b] (ak.enc (kY b)):=
 ay.aD ah mixed Tryz.func19 (public_ex b (secV b)) ⟨rfl,trivial⟩ rfl rfl
noncomputable def public_con:Con Tryz.prog G2:=fQ 19 Tryz.f19 Tryz.func19 (by kernel_rfl) (by kernel_rfl) ak (fun b=>ak.enc (kY b)) (fun _=>[]) (fun _=>rfl) (fun b _=>public_fn b)
namespace halv
noncomputable abbrev fn:=Tryz.f34
noncomputable def body:Code:=bZ fn
noncomputable def Γ:Cons Tryz.prog G2:=[r512_con]
noncomputable def s (b:B32) (d:B64):St:=dz Γ tys 100 body ⟨aH fn [ak.enc b],[],[(7,[.s (bU.enc d)])]⟩
theorem ex (b:B32) (d:B64):exec Γ tys 100 body ⟨aH fn [ak.enc b],[],[(7,[.s (bU.enc d)])]⟩=some (.ret,⟨(s b d).tm,(s b d).mem,[(7,[])]⟩,[32≤32,32≤32,32≤140737488354000,bU.enc (fP b.to)=bU.enc d,32≤64,32≤32,32≤32,0<32,Room Tryz.prog 5 32]):=by kernel_rfl
theorem res (b:B32) (d:B64):eRes tys (s b d).tm (fun k=>(s b d).mem[k]?) fn.results.toList=some [.g (ak.row (scalB d)),.a (.slg 5 32)]:=by kernel_rfl
theorem row (b:B32) (d:B64):(s b d).mem[5]? =some ⟨true,5,.gro .u8 (preB d).to 32 none⟩:=by kernel_rfl
theorem run (b:B32):aK Tryz.prog G2 0 body (aH fn [ak.enc b]) [] (aN tys fn (bA (.t [.g (ak.row (numV b)),.a (.slg 0 32)]) (.new 5 (.gro .u8 (pfxV b).to 32 none)))):=
 Runs.aQ ah mixed (ex b (fP b.to)) ⟨by omega,by omega,by omega,rfl,by omega,by omega,by omega,by omega,qI _ (by omega),trivial⟩ (aN.ret (res b (fP b.to)) ⟨5,rfl,row b (fP b.to)⟩)
def spec (N P:B32→B32):List aV→Option (SV × dh × Cst)
 | [.val v]=>match ak.dec v with
  | some b=>some (.t [.g (ak.row (N b)),.a (.slg 0 32)],.new 5 (.gro .u8 (P b).to 32 none),[])
  | none=>none
 | _=>none
noncomputable def con (N P:B32→B32) (hN:N=numV) (hP:P=pfxV):Con Tryz.prog G2:=Con.parts ah 34 fn Tryz.func34 (by kernel_rfl) (c:=body) (by kernel_rfl) [.val] (spec N P)
 (fun ps r e p h hp=>by
  unfold spec at h
  split at h<;>try cases h
  split at h<;>cases h
  exact⟨rfl,fun b hb=>by cases hb⟩)
 (fun ps r e p cap h hp hi=>by
  unfold spec at h
  split at h<;>try cases h
  split at h<;>cases h
  rename_i b hb
  rw[hN,hP]
  have:=ak.ok _ _ hb
  subst this
  exact run b)
end halv
theorem rpublic_ex (b:B32) (p:B32) (N P:B32→B32) (hN:N=numV) (hP:P=pfxV):eP [halv.con N P hN hP,qbase_con.lift jh] tys Tryz.f22 100 [ak.enc b] [(11,[.s (ak.enc p)])]=some (ak.enc p,[ak.enc (qU (N b))=ak.enc p]):=by kernel_rfl
theorem rpublic_fn (b:B32):ay Tryz.prog G2 22 [ak.enc b] (ak.enc (kY b)):=
 ay.aD ah mixed Tryz.func22 (rpublic_ex b (kY b) numV pfxV rfl rfl) ⟨rfl,trivial⟩ rfl rfl
noncomputable def rpublic_con:Con Tryz.prog G2:=fQ 22 Tryz.f22 Tryz.func22 (by kernel_rfl) (by kernel_rfl) ak (fun b=>ak.enc (kY b)) (fun _=>[]) (fun _=>rfl) (fun b _=>rpublic_fn b)
noncomputable def hash_con (H:List Int→B32) (hH:H=gq):Con Tryz.prog G2:=Con.or (hsh.ww.con H hH) (hsh.www.con H hH) rfl (hsh.ww.con_fr H hH)
def cat64 (a b:B32):B64:=⟨a.b0,a.b1,a.b2,a.b3,a.b4,a.b5,a.b6,a.b7,a.b8,a.b9,a.b10,a.b11,a.b12,a.b13,a.b14,a.b15,a.b16,a.b17,a.b18,a.b19,a.b20,a.b21,a.b22,a.b23,a.b24,a.b25,a.b26,a.b27,a.b28,a.b29,a.b30,a.b31,b.b0,b.b1,b.b2,b.b3,b.b4,b.b5,b.b6,b.b7,b.b8,b.b9,b.b10,b.b11,b.b12,b.b13,b.b14,b.b15,b.b16,b.b17,b.b18,b.b19,b.b20,b.b21,b.b22,b.b23,b.b24,b.b25,b.b26,b.b27,b.b28,b.b29,b.b30,b.b31⟩
theorem uo (ys:List Int):BOk (gq ys):=by
 have hb:∀w j,0≤byteOf w j∧byteOf w j<256:=fun w j=>by
  unfold byteOf
  rw[IntKind.wrap_u8]
  omega
 intro i
 unfold gq fO B32.at
 split<;>exact hb _ _
section
variable (b:B32) (m:List Int)
noncomputable def nonceV:B32:=gq (aZ [(pfxV b).to,m])
noncomputable def ptV:B32:=qU (nonceV b m)
noncomputable def chV:B32:=gq (aZ [(ptV b m).to,(kY b).to,m])
noncomputable def endV:B32:=smulB (chV b m) (numV b) (nonceV b m)
noncomputable def sigV:B64:=cat64 (ptV b m) (endV b m)
end
end Go.Proofs.YthlmepolmemejaaGreatDoor
