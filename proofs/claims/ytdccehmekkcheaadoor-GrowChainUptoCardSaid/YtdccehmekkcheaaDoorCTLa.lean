/- Laws of trees: awake, copies of lists: contracts. -/
import Derived.Test.YtdccehmekkcheaaDoorCFo
import Derived.Test.YtdccehmekkcheaaDoorCMTH
import Derived.Test.YtdccehmekkcheaaDoorCTrS3
set_option linter.unusedSimpArgs false
set_option linter.unusedVariables false
namespace Go.Proofs.YtdccehmekkcheaaDoor
open Go Go.Eng Go.RowKit
set_option maxRecDepth 100000
def hEP:List Int:=[0,128,0,0,0,0,0,0,0,0,0,0,0,0,0,0,0,0,0,0,0,0,0,0,0,0,0,0,0,0,0,0,0,0,0,0,0,0,0,0,0,0,0,0,0,0,0,0,0,0,0,0,0,0,0,0,0,0,0,0,0,0,0,8]
def hEB:B32:=⟨110,52,11,156,255,179,122,152,156,165,68,230,187,120,10,44,120,144,29,63,179,55,56,118,133,17,163,6,23,175,160,29⟩
theorem hE_eq:hE=hEB:=by
 unfold hE shaV
 rw[S3.ref_lit (P:=hEP) (R:=⟨1848904604,4289952408,2628076774,3145206316,2022710591,3006740598,2232525574,397385757⟩) (by kernel_rfl) (by kernel_rfl) (by kernel_rfl)]
 rfl
def lf1:Lf:=⟨⟨1,0,0,0,0,0,0,0,0,0,0,0,0,0,0,0,0,0,0,0,0,0,0,0,0,0,0,0,0,0,0,0⟩,zB⟩
theorem ok_of {b:B32} (h:(b.to.all fun x=>decide (0≤x)&&decide (x<256))=true):BOk b:=by
 have key:∀x∈b.to,0≤x∧x<256:=fun x hx=>by
  have:=List.all_eq_true.1 h x hx
  simpa using this
 intro i
 unfold B32.at
 split<;>exact key _ (by simp[B32.to])
theorem zB_ok:BOk zB:=ok_of (by decide)
theorem lf1_ok:LOk lf1:=⟨ok_of (by decide),zB_ok⟩
theorem kX:bq []=[]:=List.eq_nil_of_length_eq_zero (je [])
theorem dtw {vs:List Value} {n:Nat} (hn:vs.length=n*64):(vs.drop (0+0)).take (n*64)=vs:=by
 rw[Nat.add_zero,List.drop_zero,List.take_of_length_le (by omega)]
namespace cpl12
noncomputable abbrev fn:=Tryd.f45
noncomputable def body:Code:=d9 fn
noncomputable def Γ:Cons Tryd.prog GT:=[]
def M1 (n:Nat):List (Option SV):=aD 6 0 [(2,.o (.a (.slg 1 n)))]
def MZ:List (Option SV):=aD 6 0 [(2,.o (.a (.slc 1 0 0 0)))]
def MN:List (Option SV):=aD 6 0 [(2,.o (.a (.slc 0 0 0 0)))]
def m1 (vs:List Value) (ty:TypeId) (n:Nat):List Blk:=[⟨false,ty,.prv vs⟩,⟨true,30,.grv 64 ((vs.drop (0+0)).take (n*64)) n none⟩]
def mz (vs:List Value) (ty:TypeId):List Blk:=[⟨false,ty,.prv vs⟩,⟨true,30,.lit []⟩]
def mn:List Blk:=[⟨true,30,.lit []⟩]
theorem s (vs:List Value) (n c:Nat) (ty:TypeId):oN [0,2] Γ 100 body (aK fn [.o (.a (.sld 0 0 0 n c))]) [⟨false,ty,.prv vs⟩] [] .ret (M1 n) (m1 vs ty n) [0+0+n*64≤vs.length,0<n,Room Tryd.prog 30 n]:=by delta oN;kernel_rfl
theorem sz (vs:List Value) (n c:Nat) (ty:TypeId):oX Γ 300 body (aK fn [.o (.a (.sld 0 0 0 n c))]) [⟨false,ty,.prv vs⟩] [(5,[.dyn])] .ret MZ (mz vs ty) [0+0+n*64≤vs.length,n=0]:=by delta oX;kernel_rfl
theorem sn (a:Option Addr):oX Γ 300 body (aK fn [.o (.a (.v (.slice a 0 0)))]) [] [(5,[.dyn])] .ret MN mn [0=0]:=by delta oX;kernel_rfl
theorem i1 (vs:List Value) (ty:TypeId) (n:Nat):oI (M1 n) (m1 vs ty n):=by delta oI;kernel_rfl
theorem iz (vs:List Value) (ty:TypeId):oI MZ (mz vs ty):=by delta oI;kernel_rfl
theorem i0:oI MN mn:=by delta oI;kernel_rfl
theorem z1 (vs:List Value) (ty:TypeId) (n:Nat) (g:Nat→SV):eRes tys (fill g 0 (M1 n)) (fun k=>(m1 vs ty n)[k]?) fn.results.toList=some [.a (.slg 1 n)]:=by kernel_rfl
theorem zz (vs:List Value) (ty:TypeId) (g:Nat→SV):eRes tys (fill g 0 (MZ)) (fun k=>(mz vs ty)[k]?) fn.results.toList=some [.a (.slc 1 0 0 0)]:=by kernel_rfl
theorem z0 (g:Nat→SV):eRes tys (fill g 0 (MN)) (fun k=>(mn)[k]?) fn.results.toList=some [.a (.slc 0 0 0 0)]:=by kernel_rfl
def iW:List aU→Option (SV × dH × Cst)
 | [.winv s vs n ty]=>some (.o (.a (.slg 0 n)),.new 30 (.grv 64 vs n none),[s=64,0<n,Room Tryd.prog 30 n])
 | _=>none
def jX:List aU→Option (SV × dH × Cst)
 | [.winv s vs n ty]=>some (.o (.a (.slc 0 0 0 0)),.new 30 (.lit []),[s=64,n=0])
 | [.val (.o (.a (.v (.slice a 0 0))))]=>some (.o (.a (.slc 0 0 0 0)),.new 30 (.lit []),[])
 | _=>none
noncomputable def conP:Con Tryd.prog GT:=Con.parts aj 45 fn Tryd.func45 (by kernel_rfl) (c:=body) (by kernel_rfl) [.winv 64] iW
 (fun ps r e p h hp=>by
  unfold iW at h
  split at h<;>cases h
  exact⟨rfl,fun b hb=>by simp only[bf,aU.blk,List.append_nil,List.nil_append,List.mem_singleton] at hb;rw[hb]⟩)
 (fun ps r e p cap h hp hi=>by
  unfold iW at h
  split at h<;>cases h
  rename_i s0 vs n ty
  obtain⟨rfl,p1,p2,_⟩:=hp
  have hl:vs.length=n*64:=hi.1.1
  refine Runs.aP aj mixed [0,2] (s vs n (cap 0) ty) ⟨by omega,p1,p2,trivial⟩ (i1 _ _ _) rfl fun g=>aH.ret (z1 _ _ _ g) ⟨1,rfl,?_⟩
  show some (⟨true,_,.grv 64 ((vs.drop (0+0)).take (n*64)) n none⟩:Blk)=_
  rw[dtw hl])
noncomputable def conZ:Con Tryd.prog GT:=Con.parts aj 45 fn Tryd.func45 (by kernel_rfl) (c:=body) (by kernel_rfl) [.winv 64] jX
 (fun ps r e p h hp=>by
  unfold jX at h
  split at h<;>cases h
  ·exact⟨rfl,fun b hb=>by simp only[bf,aU.blk,List.append_nil,List.nil_append,List.mem_singleton] at hb;rw[hb]⟩
  ·exact⟨rfl,fun b hb=>by simp[bf,aU.blk] at hb⟩)
 (fun ps r e p cap h hp hi=>by
  unfold jX at h
  split at h<;>cases h
  ·rename_i s0 vs n ty
   obtain⟨rfl,p1,_⟩:=hp
   have hl:vs.length=n*64:=hi.1.1
   exact Runs.au aj mixed (sz vs n (cap 0) ty) ⟨by omega,p1,trivial⟩ (iz _ _) rfl fun g=>aH.ret (zz _ _ g) ⟨1,rfl,rfl⟩
  ·exact Runs.au aj mixed (sn _) ⟨rfl,trivial⟩ i0 rfl fun g=>aH.ret (z0 g) ⟨0,rfl,rfl⟩)
end cpl12
end Go.Proofs.YtdccehmekkcheaaDoor
