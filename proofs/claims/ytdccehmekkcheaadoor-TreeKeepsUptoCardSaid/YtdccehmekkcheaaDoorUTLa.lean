/- Laws of trees: awake, copies of lists: contracts. -/
import Derived.Test.YtdccehmekkcheaaDoorUTrZ
import Derived.Test.YtdccehmekkcheaaDoorUTrS3
namespace Go.Proofs.YtdccehmekkcheaaDoor
open Go Go.Eng Go.RowKit
set_option linter.unusedVariables false
set_option linter.unusedSimpArgs false
set_option maxRecDepth 100000
def hEP:List Int:=[0,128,0,0,0,0,0,0,0,0,0,0,0,0,0,0,0,0,0,0,0,0,0,0,0,0,0,0,0,0,0,0,0,0,0,0,0,0,0,0,0,0,0,0,0,0,0,0,0,0,0,0,0,0,0,0,0,0,0,0,0,0,0,8]
def hEB:B32:=⟨110,52,11,156,255,179,122,152,156,165,68,230,187,120,10,44,120,144,29,63,179,55,56,118,133,17,163,6,23,175,160,29⟩
theorem hE_eq:hE=hEB:=by
 unfold hE shaV
 rw[S3.ref_lit (P:=hEP) (R:=⟨1848904604,4289952408,2628076774,3145206316,2022710591,3006740598,2232525574,397385757⟩) (by kernel_rfl) (by kernel_rfl) (by kernel_rfl)]
 rfl
def lf1:Lf:=⟨⟨1,0,0,0,0,0,0,0,0,0,0,0,0,0,0,0,0,0,0,0,0,0,0,0,0,0,0,0,0,0,0,0⟩,zB⟩
namespace awk11
theorem ex (H:Nd→Nd→B32) (hH:H=hV) (E:B32) (hE':E=hE) (S:Nd→B32) (hS':S=hS) (h:B32) (y:B32):runOut ([trof.con H hH E hE' S hS' ,tleaf.con]:Cons Tryd.prog GT) tys Tryd.f17 100 [] [(5,[.s (hsS (h,0))]),(10,[.s (cNd.enc ⟨256,lf1.lab,y⟩)]),(16,[.b true]),(21,[.b true])]=some (aI.enc true,[hsS (rofT H E S [])=hsS (h,0),LOk lf1,cNd.enc (leafV lf1)=cNd.enc ⟨256,lf1.lab,y⟩,(h.b0==110)=true,(h.b1==52)=true]):=by kernel_rfl
end awk11
theorem ok_of {b:B32} (h:(b.to.all fun x=>decide (0≤x)&&decide (x<256))=true):BOk b:=by
 have key:∀x∈b.to,0≤x∧x<256:=fun x hx=>by
  have:=List.all_eq_true.1 h x hx
  simpa using this
 intro i
 unfold B32.at
 split<;>exact key _ (by simp[B32.to])
theorem zB_ok:BOk zB:=ok_of (by decide)
theorem lf1_ok:LOk lf1:=⟨ok_of (by decide),zB_ok⟩
theorem tnd_nil:tndV []=[]:=List.eq_nil_of_length_eq_zero (tnd_len [])
theorem rof_nil:rofT hV hE hS []=(hEB,0):=by
 unfold rofT
 rw[tnd_nil,rrof.rootV_nil,hE_eq]
theorem awk11.fn:FnOk Tryd.prog GT 17 [] (aI.enc true):=FnOk.bH aj mixed Tryd.func17 (awk11.ex hV rfl hE rfl hS rfl hEB (leafV lf1).hash) ⟨congrArg hsS rof_nil,lf1_ok,rfl,by decide,by decide,trivial⟩ rfl rfl
noncomputable def awk11.con:Con Tryd.prog GT:=con0 17 Tryd.f17 Tryd.func17 (by kernel_rfl) (by kernel_rfl) (aI.enc true) [] rfl (fun _=>awk11.fn)
theorem dtv {vs:List Value} {n:Nat} (hn:vs.length=n*65):(vs.drop (0+0)).take (n*65)=vs:=by
 rw[Nat.add_zero,List.drop_zero,List.take_of_length_le (by omega)]
theorem dtw {vs:List Value} {n:Nat} (hn:vs.length=n*64):(vs.drop (0+0)).take (n*64)=vs:=by
 rw[Nat.add_zero,List.drop_zero,List.take_of_length_le (by omega)]
namespace cpn11
noncomputable abbrev fn:=Tryd.f26
noncomputable def body:Code:=bq fn
noncomputable def Γ:Cons Tryd.prog GT:=[]
def M1 (n:Nat):List (Option SV):=aF 6 0 [(2,.o (.a (.slg 1 n)))]
def MZ:List (Option SV):=aF 6 0 [(2,.o (.a (.slc 1 0 0 0)))]
def MN:List (Option SV):=aF 6 0 [(2,.o (.a (.slc 0 0 0 0)))]
def m1 (vs:List Value) (ty:TypeId) (n:Nat):List Blk:=[⟨false,ty,.prv vs⟩,⟨true,33,.grv 65 ((vs.drop (0+0)).take (n*65)) n none⟩]
def mz (vs:List Value) (ty:TypeId):List Blk:=[⟨false,ty,.prv vs⟩,⟨true,33,.lit []⟩]
def mn:List Blk:=[⟨true,33,.lit []⟩]
theorem s (vs:List Value) (n c:Nat) (ty:TypeId):outN [0,2] (M1 n) (exec Γ tys 100 body ⟨aH fn [.o (.a (.sld 0 0 0 n c))],[⟨false,ty,.prv vs⟩],[]⟩)=some (.ret,(live (M1 n)).map (SV.ren (piF [0,2])),(M1 n).length,(m1 vs ty n).map (fun b=>some (b.ren (piF [0,2]))),[0+0+n*65≤vs.length,0<n,Room Tryd.prog 33 n]):=by kernel_rfl
theorem sz (vs:List Value) (n c:Nat) (ty:TypeId):outX (mz vs ty).length (MZ) (exec Γ tys 300 body ⟨aH fn [.o (.a (.sld 0 0 0 n c))],[⟨false,ty,.prv vs⟩],[(5,[.dyn])]⟩)=some (.ret,live (MZ),(MZ).length,mz vs ty,[0+0+n*65≤vs.length,n=0]):=by kernel_rfl
theorem sn (a:Option Addr):outX (mn).length (MN) (exec Γ tys 300 body ⟨aH fn [.o (.a (.v (.slice a 0 0)))],[],[(5,[.dyn])]⟩)=some (.ret,live (MN),(MN).length,mn,[0=0]):=by kernel_rfl
theorem i1 (vs:List Value) (ty:TypeId) (n:Nat):aD (m1 vs ty n).length (M1 n) (m1 vs ty n)=true:=by kernel_rfl
theorem iz (vs:List Value) (ty:TypeId):aD (mz vs ty).length (MZ) (mz vs ty)=true:=by kernel_rfl
theorem i0:aD (mn).length (MN) (mn)=true:=by kernel_rfl
theorem z1 (vs:List Value) (ty:TypeId) (n:Nat) (g:Nat→SV):eRes tys (fill g 0 (M1 n)) (fun k=>(m1 vs ty n)[k]?) fn.results.toList=some [.a (.slg 1 n)]:=by kernel_rfl
theorem zz (vs:List Value) (ty:TypeId) (g:Nat→SV):eRes tys (fill g 0 (MZ)) (fun k=>(mz vs ty)[k]?) fn.results.toList=some [.a (.slc 1 0 0 0)]:=by kernel_rfl
theorem z0 (g:Nat→SV):eRes tys (fill g 0 (MN)) (fun k=>(mn)[k]?) fn.results.toList=some [.a (.slc 0 0 0 0)]:=by kernel_rfl
def specP:List PArg→Option (SV × LEff × Cst)
 | [.winv s vs n ty]=>some (.o (.a (.slg 0 n)),.new 33 (.grv 65 vs n none),[s=65,0<n,Room Tryd.prog 33 n])
 | _=>none
def specZ:List PArg→Option (SV × LEff × Cst)
 | [.winv s vs n ty]=>some (.o (.a (.slc 0 0 0 0)),.new 33 (.lit []),[s=65,n=0])
 | [.val (.o (.a (.v (.slice a 0 0))))]=>some (.o (.a (.slc 0 0 0 0)),.new 33 (.lit []),[])
 | _=>none
noncomputable def conP:Con Tryd.prog GT:=Con.parts aj 26 fn Tryd.func26 (by kernel_rfl) (c:=body) (by kernel_rfl) [.winv 65] specP
 (fun ps r e p h hp=>by
  unfold specP at h
  split at h<;>cases h
  exact⟨rfl,fun b hb=>by simp only[aN,PArg.blk,List.append_nil,List.nil_append,List.mem_singleton] at hb;rw[hb]⟩)
 (fun ps r e p cap h hp hi=>by
  unfold specP at h
  split at h<;>cases h
  rename_i s0 vs n ty
  obtain⟨rfl,p1,p2,_⟩:=hp
  have hl:vs.length=n*65:=hi.1.1
  refine Runs.aK aj mixed [0,2] (s vs n (cap 0) ty) ⟨by omega,p1,p2,trivial⟩ (i1 _ _ _) rfl fun g=>aG.ret (z1 _ _ _ g) ⟨1,rfl,?_⟩
  show some (⟨true,_,.grv 65 ((vs.drop (0+0)).take (n*65)) n none⟩:Blk)=_
  rw[dtv hl])
noncomputable def conZ:Con Tryd.prog GT:=Con.parts aj 26 fn Tryd.func26 (by kernel_rfl) (c:=body) (by kernel_rfl) [.winv 65] specZ
 (fun ps r e p h hp=>by
  unfold specZ at h
  split at h<;>cases h
  ·exact⟨rfl,fun b hb=>by simp only[aN,PArg.blk,List.append_nil,List.nil_append,List.mem_singleton] at hb;rw[hb]⟩
  ·exact⟨rfl,fun b hb=>by simp[aN,PArg.blk] at hb⟩)
 (fun ps r e p cap h hp hi=>by
  unfold specZ at h
  split at h<;>cases h
  ·rename_i s0 vs n ty
   obtain⟨rfl,p1,_⟩:=hp
   have hl:vs.length=n*65:=hi.1.1
   exact Runs.au aj mixed (sz vs n (cap 0) ty) ⟨by omega,p1,trivial⟩ (iz _ _) rfl fun g=>aG.ret (zz _ _ g) ⟨1,rfl,rfl⟩
  ·exact Runs.au aj mixed (sn _) ⟨rfl,trivial⟩ i0 rfl fun g=>aG.ret (z0 g) ⟨0,rfl,rfl⟩)
end cpn11
namespace cpl11
noncomputable abbrev fn:=Tryd.f20
noncomputable def body:Code:=bq fn
noncomputable def Γ:Cons Tryd.prog GT:=[]
def M1 (n:Nat):List (Option SV):=aF 6 0 [(2,.o (.a (.slg 1 n)))]
def MZ:List (Option SV):=aF 6 0 [(2,.o (.a (.slc 1 0 0 0)))]
def MN:List (Option SV):=aF 6 0 [(2,.o (.a (.slc 0 0 0 0)))]
def m1 (vs:List Value) (ty:TypeId) (n:Nat):List Blk:=[⟨false,ty,.prv vs⟩,⟨true,30,.grv 64 ((vs.drop (0+0)).take (n*64)) n none⟩]
def mz (vs:List Value) (ty:TypeId):List Blk:=[⟨false,ty,.prv vs⟩,⟨true,30,.lit []⟩]
def mn:List Blk:=[⟨true,30,.lit []⟩]
theorem s (vs:List Value) (n c:Nat) (ty:TypeId):outN [0,2] (M1 n) (exec Γ tys 100 body ⟨aH fn [.o (.a (.sld 0 0 0 n c))],[⟨false,ty,.prv vs⟩],[]⟩)=some (.ret,(live (M1 n)).map (SV.ren (piF [0,2])),(M1 n).length,(m1 vs ty n).map (fun b=>some (b.ren (piF [0,2]))),[0+0+n*64≤vs.length,0<n,Room Tryd.prog 30 n]):=by kernel_rfl
theorem sz (vs:List Value) (n c:Nat) (ty:TypeId):outX (mz vs ty).length (MZ) (exec Γ tys 300 body ⟨aH fn [.o (.a (.sld 0 0 0 n c))],[⟨false,ty,.prv vs⟩],[(5,[.dyn])]⟩)=some (.ret,live (MZ),(MZ).length,mz vs ty,[0+0+n*64≤vs.length,n=0]):=by kernel_rfl
theorem sn (a:Option Addr):outX (mn).length (MN) (exec Γ tys 300 body ⟨aH fn [.o (.a (.v (.slice a 0 0)))],[],[(5,[.dyn])]⟩)=some (.ret,live (MN),(MN).length,mn,[0=0]):=by kernel_rfl
theorem i1 (vs:List Value) (ty:TypeId) (n:Nat):aD (m1 vs ty n).length (M1 n) (m1 vs ty n)=true:=by kernel_rfl
theorem iz (vs:List Value) (ty:TypeId):aD (mz vs ty).length (MZ) (mz vs ty)=true:=by kernel_rfl
theorem i0:aD (mn).length (MN) (mn)=true:=by kernel_rfl
theorem z1 (vs:List Value) (ty:TypeId) (n:Nat) (g:Nat→SV):eRes tys (fill g 0 (M1 n)) (fun k=>(m1 vs ty n)[k]?) fn.results.toList=some [.a (.slg 1 n)]:=by kernel_rfl
theorem zz (vs:List Value) (ty:TypeId) (g:Nat→SV):eRes tys (fill g 0 (MZ)) (fun k=>(mz vs ty)[k]?) fn.results.toList=some [.a (.slc 1 0 0 0)]:=by kernel_rfl
theorem z0 (g:Nat→SV):eRes tys (fill g 0 (MN)) (fun k=>(mn)[k]?) fn.results.toList=some [.a (.slc 0 0 0 0)]:=by kernel_rfl
def specP:List PArg→Option (SV × LEff × Cst)
 | [.winv s vs n ty]=>some (.o (.a (.slg 0 n)),.new 30 (.grv 64 vs n none),[s=64,0<n,Room Tryd.prog 30 n])
 | _=>none
def specZ:List PArg→Option (SV × LEff × Cst)
 | [.winv s vs n ty]=>some (.o (.a (.slc 0 0 0 0)),.new 30 (.lit []),[s=64,n=0])
 | [.val (.o (.a (.v (.slice a 0 0))))]=>some (.o (.a (.slc 0 0 0 0)),.new 30 (.lit []),[])
 | _=>none
noncomputable def conP:Con Tryd.prog GT:=Con.parts aj 20 fn Tryd.func20 (by kernel_rfl) (c:=body) (by kernel_rfl) [.winv 64] specP
 (fun ps r e p h hp=>by
  unfold specP at h
  split at h<;>cases h
  exact⟨rfl,fun b hb=>by simp only[aN,PArg.blk,List.append_nil,List.nil_append,List.mem_singleton] at hb;rw[hb]⟩)
 (fun ps r e p cap h hp hi=>by
  unfold specP at h
  split at h<;>cases h
  rename_i s0 vs n ty
  obtain⟨rfl,p1,p2,_⟩:=hp
  have hl:vs.length=n*64:=hi.1.1
  refine Runs.aK aj mixed [0,2] (s vs n (cap 0) ty) ⟨by omega,p1,p2,trivial⟩ (i1 _ _ _) rfl fun g=>aG.ret (z1 _ _ _ g) ⟨1,rfl,?_⟩
  show some (⟨true,_,.grv 64 ((vs.drop (0+0)).take (n*64)) n none⟩:Blk)=_
  rw[dtw hl])
noncomputable def conZ:Con Tryd.prog GT:=Con.parts aj 20 fn Tryd.func20 (by kernel_rfl) (c:=body) (by kernel_rfl) [.winv 64] specZ
 (fun ps r e p h hp=>by
  unfold specZ at h
  split at h<;>cases h
  ·exact⟨rfl,fun b hb=>by simp only[aN,PArg.blk,List.append_nil,List.nil_append,List.mem_singleton] at hb;rw[hb]⟩
  ·exact⟨rfl,fun b hb=>by simp[aN,PArg.blk] at hb⟩)
 (fun ps r e p cap h hp hi=>by
  unfold specZ at h
  split at h<;>cases h
  ·rename_i s0 vs n ty
   obtain⟨rfl,p1,_⟩:=hp
   have hl:vs.length=n*64:=hi.1.1
   exact Runs.au aj mixed (sz vs n (cap 0) ty) ⟨by omega,p1,trivial⟩ (iz _ _) rfl fun g=>aG.ret (zz _ _ g) ⟨1,rfl,rfl⟩
  ·exact Runs.au aj mixed (sn _) ⟨rfl,trivial⟩ i0 rfl fun g=>aG.ret (z0 g) ⟨0,rfl,rfl⟩)
end cpl11
end Go.Proofs.YtdccehmekkcheaaDoor
