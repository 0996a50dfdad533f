/- Package beaconref01: its table, rotations, and padded: walked, with contracts. -/
import Derived.Test.YtdccehmekkcheaaDoorCFo
import Derived.Test.YtdccehmekkcheaaDoorCMX
import Derived.Laws.MathBits
set_option linter.unusedVariables false
namespace Go.Proofs.YtdccehmekkcheaaDoor.S3
open Go Go.Eng Go.RowKit
set_option maxRecDepth 100000
theorem rk256_fn:dI Tryd.prog Gs 75 [] (.o (.g (jI.map (aG .u32)))):=
 dI.dO (Γ:=([]:Cons Tryd.prog Gs)) aj mixed Tryd.func75 (n:=100) (orc:=[]) (cs:=[]) (by kernel_rfl) trivial (lT _ _) rfl
noncomputable def rk256_con:Con Tryd.prog Gs:=con0 75 Tryd.f75 Tryd.func75 (by kernel_rfl) (by kernel_rfl) (.o (.g (jI.map (aG .u32)))) [] (lT _ _) (fun _=>rk256_fn)
theorem or_comm32 (a b:Int):bits .or .u32 a b=bits .or .u32 b a:=by
 unfold bits
 simp only
 rw[BitVec.or_comm]
def rrots:List Int:=[17,19,7,18,6,11,25,2,13,22]
theorem rrot32_fn (a k:Int) (h:k∈rrots):dI Tryd.prog Gs 77 [(aQ .u32).enc a,(aQ .u64).enc k] ((aQ .u32).enc (rotF a (-k))):=by
 unfold rrots at h
 unfold rotF
 rw[or_comm32]
 simp only[List.mem_cons,List.not_mem_nil,or_false] at h
 rcases h with rfl | rfl | rfl | rfl | rfl | rfl | rfl | rfl | rfl | rfl
 ·exact dI.dO (Γ:=([]:Cons Tryd.prog Gs)) aj mixed Tryd.func77 (n:=100) (orc:=[]) (cs:=[]) (by kernel_rfl) trivial rfl rfl
 ·exact dI.dO (Γ:=([]:Cons Tryd.prog Gs)) aj mixed Tryd.func77 (n:=100) (orc:=[]) (cs:=[]) (by kernel_rfl) trivial rfl rfl
 ·exact dI.dO (Γ:=([]:Cons Tryd.prog Gs)) aj mixed Tryd.func77 (n:=100) (orc:=[]) (cs:=[]) (by kernel_rfl) trivial rfl rfl
 ·exact dI.dO (Γ:=([]:Cons Tryd.prog Gs)) aj mixed Tryd.func77 (n:=100) (orc:=[]) (cs:=[]) (by kernel_rfl) trivial rfl rfl
 ·exact dI.dO (Γ:=([]:Cons Tryd.prog Gs)) aj mixed Tryd.func77 (n:=100) (orc:=[]) (cs:=[]) (by kernel_rfl) trivial rfl rfl
 ·exact dI.dO (Γ:=([]:Cons Tryd.prog Gs)) aj mixed Tryd.func77 (n:=100) (orc:=[]) (cs:=[]) (by kernel_rfl) trivial rfl rfl
 ·exact dI.dO (Γ:=([]:Cons Tryd.prog Gs)) aj mixed Tryd.func77 (n:=100) (orc:=[]) (cs:=[]) (by kernel_rfl) trivial rfl rfl
 ·exact dI.dO (Γ:=([]:Cons Tryd.prog Gs)) aj mixed Tryd.func77 (n:=100) (orc:=[]) (cs:=[]) (by kernel_rfl) trivial rfl rfl
 ·exact dI.dO (Γ:=([]:Cons Tryd.prog Gs)) aj mixed Tryd.func77 (n:=100) (orc:=[]) (cs:=[]) (by kernel_rfl) trivial rfl rfl
 ·exact dI.dO (Γ:=([]:Cons Tryd.prog Gs)) aj mixed Tryd.func77 (n:=100) (orc:=[]) (cs:=[]) (by kernel_rfl) trivial rfl rfl
noncomputable def rrot32_con:Con Tryd.prog Gs:=Con.of 77 Tryd.f77 Tryd.func77 (by kernel_rfl) (by kernel_rfl) (fun
 | [x,y]=>match (aQ .u32).dec x,(aQ .u64).dec y with
  | some a,some k=>if rrots.elem k then some ((aQ .u32).enc (rotF a (-k)),[]) else none
  | _,_=>none
 | _=>none) fun args r c h=>by
  split at h<;>try cases h
  split at h<;>try cases h
  rename_i ha hb
  split at h<;>cases h
  rename_i hk
  rw[←(aQ .u32).ok _ _ ha,←(aQ .u64).ok _ _ hb]
  exact⟨u32_ids _,fun _=>rrot32_fn _ _ (by simpa using hk)⟩
def dM (n bk ln:Nat):Nat:=(bk-(n+1+ln)%bk)%bk
def jM (bt:Int) (i:Nat):Int:=cond (Nat.ble 8 i) 0 (bZ bt (8*i))
def fM (bt:Int):Nat→List Int
 | 0=>[]
 | i+1=>jM bt i::fM bt i
def lenV (n:Nat):Int:=IntKind.u64.wrap (IntKind.u64.wrap (n:Int)*8)
def bV (ys:List Int) (bk ln:Nat):List Int:=ys++([128]++(List.replicate (dM ys.length bk ln) 0++fM (lenV ys.length) ln))
theorem jB (bt:Int):∀i,(fM bt i).length=i
 | 0=>rfl
 | i+1=>by rw[fM,List.length_cons,jB]
namespace padd
noncomputable abbrev fn:=Tryd.f76
noncomputable def body:Code:=d9 fn
noncomputable def R0:Code:=cs1 body
noncomputable def R1:Code:=cs1 (cs2 body)
noncomputable def R2:Code:=cs1 (cs2 (cs2 body))
noncomputable def T3:Code:=cs2 (cs2 (cs2 body))
noncomputable def L1:Code:=cL (cB (cs1 T3))
noncomputable def R5:Code:=cs1 (cs2 T3)
noncomputable def T6:Code:=cs2 (cs2 T3)
noncomputable def R6:Code:=cs1 (cs1 T6)
noncomputable def L2:Code:=cL (cB (cs2 (cs1 T6)))
noncomputable def D:Code:=cs2 T6
theorem ku:body= .seq R0 (.seq R1 (.seq R2 (.seq (.block 0 (.loop L1)) (.seq R5 (.seq (.seq R6 (.block 2 (.loop L2))) D))))):=by kernel_rfl
namespace win64
def M0 (n c:Nat):List (Option SV):=aD 51 0 [(0,.o (.a (.sld 0 0 0 n c))),(1,(aQ .i64).enc (64)),(2,(aQ .i64).enc (8))]
def M1 (n c:Nat) (len:Nat):List (Option SV):=aD 51 0 [(0,.o (.a (.sld 0 0 0 n c))),(1,(aQ .i64).enc (64)),(2,(aQ .i64).enc (8)),(7,.o (.a (.slg 1 len)))]
def M2 (n c:Nat) (len:Nat) (bt:Int):List (Option SV):=aD 51 0 [(0,.o (.a (.sld 0 0 0 n c))),(1,(aQ .i64).enc (64)),(2,(aQ .i64).enc (8)),(7,.o (.a (.slg 1 len))),(8,(aQ .u64).enc bt)]
def M3 (n c:Nat) (len:Nat) (bt:Int) (j:Nat):List (Option SV):=aD 51 0 [(0,.o (.a (.sld 0 0 0 n c))),(1,(aQ .i64).enc (64)),(2,(aQ .i64).enc (8)),(7,.o (.a (.slg 1 len))),(8,(aQ .u64).enc bt),(9,(aQ .i64).enc (((j:Nat):Int)-1))]
def aT (ys:List Int) (ty:TypeId):List Blk:=[⟨false,ty,.pre .u8 ys⟩]
def mem (ys:List Int) (ty:TypeId) (xs:List Int) (lo:Nat) (hi:Option Nat):List Blk:=[⟨false,ty,.pre .u8 ys⟩,⟨true,5,.gro .u8 xs lo hi⟩]
noncomputable def t0 (ys:List Int) (n c:Nat) (ty:TypeId):List SV:=aK fn [.o (.a (.sld 0 0 0 n c)),(aQ .i64).enc (64),(aQ .i64).enc (8)]
section
variable (ys:List Int) (n c:Nat) (ty:TypeId)
theorem fO:oI (M0 n c) (aT ys ty):=by delta oI;kernel_rfl
theorem dh (xs:List Int) (lo len:Nat) (hi:Option Nat):oI (M1 n c len) (mem ys ty xs lo hi):=by delta oI;kernel_rfl
theorem gG (xs:List Int) (lo len:Nat) (bt:Int) (hi:Option Nat):oI (M2 n c len bt) (mem ys ty xs lo hi):=by delta oI;kernel_rfl
theorem jO (xs:List Int) (lo len:Nat) (bt:Int) (j:Nat) (hi:Option Nat):oI (M3 n c len bt j) (mem ys ty xs lo hi):=by delta oI;kernel_rfl
theorem r0:oX ([]:Cons Tryd.prog Gs) 100 R0 (t0 ys n c ty) (aT ys ty) [] .normal (M0 n c) (aT ys ty) []:=by delta oX;kernel_rfl
theorem r1 (g:Nat→SV):oN [0,2] ([]:Cons Tryd.prog Gs) 100 R1 (fill g 0 (M0 n c)) (aT ys ty) [] .normal (M1 n c n) (mem ys ty ((ys.drop 0).take n) n none) [0+n≤ys.length,0<n,Room Tryd.prog 5 n]:=by delta oN;kernel_rfl
end
def Mz (n c:Nat):List (Option SV):=aD 51 0 [(0,.o (.a (.sld 0 0 0 n c))),(1,(aQ .i64).enc (64)),(2,(aQ .i64).enc (8)),(7,.o (.a (.slc 1 0 0 0)))]
section
variable (ys:List Int)
def memz (ty:TypeId):List Blk:=[⟨false,ty,.pre .u8 ys⟩,⟨true,5,.lit []⟩]
theorem idsz (n c:Nat) (ty:TypeId):oI (Mz n c) (memz ys ty):=by delta oI;kernel_rfl
theorem r1z (n c:Nat) (ty:TypeId) (g:Nat→SV):oX ([]:Cons Tryd.prog Gs) 100 R1 (fill g 0 (M0 n c)) (aT ys ty) [(12,[.dyn])] .normal (Mz n c) (memz ys ty) [0+n≤ys.length,n=0,0≤0]:=by delta oX;kernel_rfl
theorem r2z (n c:Nat) (ty:TypeId) (g:Nat→SV):oN [0,3] ([]:Cons Tryd.prog Gs) 100 R2 (fill g 0 (Mz n c)) (memz ys ty) [] .normal (M1 n c 1) (mem ys ty [128] 1 none) [0+1≤1,0<1,Room Tryd.prog 5 1]:=by delta oN;kernel_rfl
theorem r2i (n c:Nat) (ty:TypeId) (xs:List Int) (len:Nat) (g:Nat→SV):oX ([]:Cons Tryd.prog Gs) 100 R2 (fill g 0 (M1 n c len)) (mem ys ty xs (len+1) none) [] .normal (M1 n c (len+1)) (mem ys ty (xs++[128]) (len+1) none) [0+1≤1,len=xs.length,len+1≤len+1]:=by delta oX;kernel_rfl
theorem r2g (n c:Nat) (ty:TypeId) (xs:List Int) (len lo:Nat) (g:Nat→SV):oN [0,3] ([]:Cons Tryd.prog Gs) 100 R2 (fill g 0 (M1 n c len)) (mem ys ty xs lo (some (len+1))) [] .normal (M1 n c (len+1)) (mem ys ty (xs++[128]) (len+1) none) [0+1≤1,len=xs.length,len+1≤len+1,Room Tryd.prog 5 (len+1)]:=by delta oN;kernel_rfl
theorem l1i (n c:Nat) (ty:TypeId) (xs:List Int) (len:Nat) (g:Nat→SV):oX ([]:Cons Tryd.prog Gs) 100 L1 (fill g 0 (M1 n c len)) (mem ys ty xs (len+1) none) [(22,[.b true])] .normal (M1 n c (len+1)) (mem ys ty (xs++[0]) (len+1) none) [((IntKind.i64.wrap ((len:Int)+8)).tmod 64 !=0)=true,0+1≤1,len=xs.length,len+1≤len+1]:=by delta oX;kernel_rfl
theorem l1g (n c:Nat) (ty:TypeId) (xs:List Int) (len lo:Nat) (g:Nat→SV):oN [0,3] ([]:Cons Tryd.prog Gs) 100 L1 (fill g 0 (M1 n c len)) (mem ys ty xs lo (some (len+1))) [(22,[.b true])] .normal (M1 n c (len+1)) (mem ys ty (xs++[0]) (len+1) none) [((IntKind.i64.wrap ((len:Int)+8)).tmod 64 !=0)=true,0+1≤1,len=xs.length,len+1≤len+1,Room Tryd.prog 5 (len+1)]:=by delta oN;kernel_rfl
theorem l1x (n c:Nat) (ty:TypeId) (xs:List Int) (len lo:Nat) (g:Nat→SV):oX ([]:Cons Tryd.prog Gs) 100 L1 (fill g 0 (M1 n c len)) (mem ys ty xs lo none) [(22,[.b false])] (.exit 0) (M1 n c len) (mem ys ty xs lo none) [((IntKind.i64.wrap ((len:Int)+8)).tmod 64 !=0)=false]:=by delta oX;kernel_rfl
theorem r5 (n c:Nat) (ty:TypeId) (xs:List Int) (len lo:Nat) (g:Nat→SV):oX ([]:Cons Tryd.prog Gs) 100 R5 (fill g 0 (M1 n c len)) (mem ys ty xs lo none) [] .normal (M2 n c len (lenV n)) (mem ys ty xs lo none) []:=by delta oX;kernel_rfl
theorem r6 (n c:Nat) (ty:TypeId) (xs:List Int) (len lo:Nat) (bt:Int) (g:Nat→SV):oX ([]:Cons Tryd.prog Gs) 100 R6 (fill g 0 (M2 n c len bt)) (mem ys ty xs lo none) [] .normal (M3 n c len bt 8) (mem ys ty xs lo none) []:=by delta oX;kernel_rfl
theorem l2i (n c:Nat) (ty:TypeId) (xs:List Int) (len:Nat) (bt:Int) (g:Nat→SV):fV (fun i=>jq (mem ys ty (xs++[jM bt i]) (len+1) none).length (M3 n c (len+1) bt i) (exec ([]:Cons Tryd.prog Gs) tys 100 L2 ⟨fill g 0 (M3 n c len bt (i+1)),mem ys ty xs (len+1) none,[]⟩)) 8=fU (fun i=>some (.normal,live (M3 n c (len+1) bt i),(M3 n c (len+1) bt i).length,mem ys ty (xs++[jM bt i]) (len+1) none,[0+1≤1,len=xs.length,len+1≤len+1])) 8:=by kernel_rfl
theorem l2g (n c:Nat) (ty:TypeId) (xs:List Int) (len lo:Nat) (bt:Int) (g:Nat→SV):fV (fun i=>outN [0,3] (M3 n c (len+1) bt i) (exec ([]:Cons Tryd.prog Gs) tys 100 L2 ⟨fill g 0 (M3 n c len bt (i+1)),mem ys ty xs lo (some (len+1)),[]⟩)) 8=fU (fun i=>some (.normal,(live (M3 n c (len+1) bt i)).map (SV.ren (piF [0,3])),(M3 n c (len+1) bt i).length,(mem ys ty (xs++[jM bt i]) (len+1) none).map (fun b=>some (b.ren (piF [0,3]))),[0+1≤1,len=xs.length,len+1≤len+1,Room Tryd.prog 5 (len+1)])) 8:=by kernel_rfl
theorem l2x (n c:Nat) (ty:TypeId) (xs:List Int) (len lo:Nat) (bt:Int) (g:Nat→SV):oX ([]:Cons Tryd.prog Gs) 100 L2 (fill g 0 (M3 n c len bt 0)) (mem ys ty xs lo none) [] (.exit 2) (M1 n c len) (mem ys ty xs lo none) []:=by delta oX;kernel_rfl
noncomputable def fin (n c:Nat) (ty:TypeId) (xs:List Int) (len lo:Nat) (g:Nat→SV):St:=outS ([]:Cons Tryd.prog Gs) tys 100 D ⟨fill g 0 (M1 n c len),mem ys ty xs lo none,[]⟩
theorem d (n c:Nat) (ty:TypeId) (xs:List Int) (len lo:Nat) (g:Nat→SV):exec ([]:Cons Tryd.prog Gs) tys 100 D ⟨fill g 0 (M1 n c len),mem ys ty xs lo none,[]⟩=some (.ret,⟨(fin ys n c ty xs len lo g).tm,(fin ys n c ty xs len lo g).mem,[]⟩,[]):=by kernel_rfl
theorem res (n c:Nat) (ty:TypeId) (xs:List Int) (len lo:Nat) (g:Nat→SV):eRes tys (fin ys n c ty xs len lo g).tm (fun k=>(fin ys n c ty xs len lo g).mem[k]?) fn.results.toList=some [.a (.slg 1 len)]:=by kernel_rfl
theorem row (n c:Nat) (ty:TypeId) (xs:List Int) (len lo:Nat) (g:Nat→SV):(fin ys n c ty xs len lo g).mem[1]? =some ⟨true,5,.gro .u8 xs lo none⟩:=by kernel_rfl
end
end win64
namespace none64
def M0 (a:Option Addr):List (Option SV):=aD 51 0 [(0,.o (.a (.v (.slice a 0 0)))),(1,(aQ .i64).enc (64)),(2,(aQ .i64).enc (8))]
def M1 (a:Option Addr) (len:Nat):List (Option SV):=aD 51 0 [(0,.o (.a (.v (.slice a 0 0)))),(1,(aQ .i64).enc (64)),(2,(aQ .i64).enc (8)),(7,.o (.a (.slg 0 len)))]
def M2 (a:Option Addr) (len:Nat) (bt:Int):List (Option SV):=aD 51 0 [(0,.o (.a (.v (.slice a 0 0)))),(1,(aQ .i64).enc (64)),(2,(aQ .i64).enc (8)),(7,.o (.a (.slg 0 len))),(8,(aQ .u64).enc bt)]
def M3 (a:Option Addr) (len:Nat) (bt:Int) (j:Nat):List (Option SV):=aD 51 0 [(0,.o (.a (.v (.slice a 0 0)))),(1,(aQ .i64).enc (64)),(2,(aQ .i64).enc (8)),(7,.o (.a (.slg 0 len))),(8,(aQ .u64).enc bt),(9,(aQ .i64).enc (((j:Nat):Int)-1))]
def aT:List Blk:=[]
def mem (xs:List Int) (lo:Nat) (hi:Option Nat):List Blk:=[⟨true,5,.gro .u8 xs lo hi⟩]
section
variable (a:Option Addr)
noncomputable def t0:List SV:=aK fn [.o (.a (.v (.slice a 0 0))),(aQ .i64).enc (64),(aQ .i64).enc (8)]
theorem fO:oI (M0 a) (aT):=by delta oI;kernel_rfl
theorem dh (xs:List Int) (lo len:Nat) (hi:Option Nat):oI (M1 a len) (mem xs lo hi):=by delta oI;kernel_rfl
theorem gG (xs:List Int) (lo len:Nat) (bt:Int) (hi:Option Nat):oI (M2 a len bt) (mem xs lo hi):=by delta oI;kernel_rfl
theorem jO (xs:List Int) (lo len:Nat) (bt:Int) (j:Nat) (hi:Option Nat):oI (M3 a len bt j) (mem xs lo hi):=by delta oI;kernel_rfl
theorem r0:oX ([]:Cons Tryd.prog Gs) 100 R0 (t0 a) (aT) [] .normal (M0 a) (aT) []:=by delta oX;kernel_rfl
def Mz:List (Option SV):=aD 51 0 [(0,.o (.a (.v (.slice a 0 0)))),(1,(aQ .i64).enc (64)),(2,(aQ .i64).enc (8)),(7,.o (.a (.slc 0 0 0 0)))]
end
def memz:List Blk:=[⟨true,5,.lit []⟩]
section
variable (a:Option Addr)
theorem idsz:oI (Mz a) (memz):=by delta oI;kernel_rfl
theorem r1z (g:Nat→SV):oX ([]:Cons Tryd.prog Gs) 100 R1 (fill g 0 (M0 a)) (aT) [(12,[.dyn])] .normal (Mz a) (memz) [0=0,0≤0]:=by delta oX;kernel_rfl
theorem r2z (g:Nat→SV):oN [2] ([]:Cons Tryd.prog Gs) 100 R2 (fill g 0 (Mz a)) (memz) [] .normal (M1 a 1) (mem [128] 1 none) [0+1≤1,0<1,Room Tryd.prog 5 1]:=by delta oN;kernel_rfl
theorem l1i (xs:List Int) (len:Nat) (g:Nat→SV):oX ([]:Cons Tryd.prog Gs) 100 L1 (fill g 0 (M1 a len)) (mem xs (len+1) none) [(22,[.b true])] .normal (M1 a (len+1)) (mem (xs++[0]) (len+1) none) [((IntKind.i64.wrap ((len:Int)+8)).tmod 64 !=0)=true,0+1≤1,len=xs.length,len+1≤len+1]:=by delta oX;kernel_rfl
theorem l1g (xs:List Int) (len lo:Nat) (g:Nat→SV):oN [2] ([]:Cons Tryd.prog Gs) 100 L1 (fill g 0 (M1 a len)) (mem xs lo (some (len+1))) [(22,[.b true])] .normal (M1 a (len+1)) (mem (xs++[0]) (len+1) none) [((IntKind.i64.wrap ((len:Int)+8)).tmod 64 !=0)=true,0+1≤1,len=xs.length,len+1≤len+1,Room Tryd.prog 5 (len+1)]:=by delta oN;kernel_rfl
theorem l1x (xs:List Int) (len lo:Nat) (g:Nat→SV):oX ([]:Cons Tryd.prog Gs) 100 L1 (fill g 0 (M1 a len)) (mem xs lo none) [(22,[.b false])] (.exit 0) (M1 a len) (mem xs lo none) [((IntKind.i64.wrap ((len:Int)+8)).tmod 64 !=0)=false]:=by delta oX;kernel_rfl
theorem r5 (xs:List Int) (len lo:Nat) (g:Nat→SV):oX ([]:Cons Tryd.prog Gs) 100 R5 (fill g 0 (M1 a len)) (mem xs lo none) [] .normal (M2 a len (lenV 0)) (mem xs lo none) []:=by delta oX;kernel_rfl
theorem r6 (xs:List Int) (len lo:Nat) (bt:Int) (g:Nat→SV):oX ([]:Cons Tryd.prog Gs) 100 R6 (fill g 0 (M2 a len bt)) (mem xs lo none) [] .normal (M3 a len bt 8) (mem xs lo none) []:=by delta oX;kernel_rfl
theorem l2i (xs:List Int) (len:Nat) (bt:Int) (g:Nat→SV):fV (fun i=>jq (mem (xs++[jM bt i]) (len+1) none).length (M3 a (len+1) bt i) (exec ([]:Cons Tryd.prog Gs) tys 100 L2 ⟨fill g 0 (M3 a len bt (i+1)),mem xs (len+1) none,[]⟩)) 8=fU (fun i=>some (.normal,live (M3 a (len+1) bt i),(M3 a (len+1) bt i).length,mem (xs++[jM bt i]) (len+1) none,[0+1≤1,len=xs.length,len+1≤len+1])) 8:=by kernel_rfl
theorem l2g (xs:List Int) (len lo:Nat) (bt:Int) (g:Nat→SV):fV (fun i=>outN [2] (M3 a (len+1) bt i) (exec ([]:Cons Tryd.prog Gs) tys 100 L2 ⟨fill g 0 (M3 a len bt (i+1)),mem xs lo (some (len+1)),[]⟩)) 8=fU (fun i=>some (.normal,(live (M3 a (len+1) bt i)).map (SV.ren (piF [2])),(M3 a (len+1) bt i).length,(mem (xs++[jM bt i]) (len+1) none).map (fun b=>some (b.ren (piF [2]))),[0+1≤1,len=xs.length,len+1≤len+1,Room Tryd.prog 5 (len+1)])) 8:=by kernel_rfl
theorem l2x (xs:List Int) (len lo:Nat) (bt:Int) (g:Nat→SV):oX ([]:Cons Tryd.prog Gs) 100 L2 (fill g 0 (M3 a len bt 0)) (mem xs lo none) [] (.exit 2) (M1 a len) (mem xs lo none) []:=by delta oX;kernel_rfl
noncomputable def fin (xs:List Int) (len lo:Nat) (g:Nat→SV):St:=outS ([]:Cons Tryd.prog Gs) tys 100 D ⟨fill g 0 (M1 a len),mem xs lo none,[]⟩
theorem d (xs:List Int) (len lo:Nat) (g:Nat→SV):exec ([]:Cons Tryd.prog Gs) tys 100 D ⟨fill g 0 (M1 a len),mem xs lo none,[]⟩=some (.ret,⟨(fin a xs len lo g).tm,(fin a xs len lo g).mem,[]⟩,[]):=by kernel_rfl
theorem res (xs:List Int) (len lo:Nat) (g:Nat→SV):eRes tys (fin a xs len lo g).tm (fun k=>(fin a xs len lo g).mem[k]?) fn.results.toList=some [.a (.slg 0 len)]:=by kernel_rfl
theorem row (xs:List Int) (len lo:Nat) (g:Nat→SV):(fin a xs len lo g).mem[0]? =some ⟨true,5,.gro .u8 xs lo none⟩:=by kernel_rfl
end
end none64
namespace win128
def M0 (n c:Nat):List (Option SV):=aD 51 0 [(0,.o (.a (.sld 0 0 0 n c))),(1,(aQ .i64).enc (128)),(2,(aQ .i64).enc (16))]
def M1 (n c:Nat) (len:Nat):List (Option SV):=aD 51 0 [(0,.o (.a (.sld 0 0 0 n c))),(1,(aQ .i64).enc (128)),(2,(aQ .i64).enc (16)),(7,.o (.a (.slg 1 len)))]
def M2 (n c:Nat) (len:Nat) (bt:Int):List (Option SV):=aD 51 0 [(0,.o (.a (.sld 0 0 0 n c))),(1,(aQ .i64).enc (128)),(2,(aQ .i64).enc (16)),(7,.o (.a (.slg 1 len))),(8,(aQ .u64).enc bt)]
def M3 (n c:Nat) (len:Nat) (bt:Int) (j:Nat):List (Option SV):=aD 51 0 [(0,.o (.a (.sld 0 0 0 n c))),(1,(aQ .i64).enc (128)),(2,(aQ .i64).enc (16)),(7,.o (.a (.slg 1 len))),(8,(aQ .u64).enc bt),(9,(aQ .i64).enc (((j:Nat):Int)-1))]
def aT (ys:List Int) (ty:TypeId):List Blk:=[⟨false,ty,.pre .u8 ys⟩]
def mem (ys:List Int) (ty:TypeId) (xs:List Int) (lo:Nat) (hi:Option Nat):List Blk:=[⟨false,ty,.pre .u8 ys⟩,⟨true,5,.gro .u8 xs lo hi⟩]
noncomputable def t0 (ys:List Int) (n c:Nat) (ty:TypeId):List SV:=aK fn [.o (.a (.sld 0 0 0 n c)),(aQ .i64).enc (128),(aQ .i64).enc (16)]
section
variable (ys:List Int) (n c:Nat) (ty:TypeId)
theorem fO:oI (M0 n c) (aT ys ty):=by delta oI;kernel_rfl
theorem dh (xs:List Int) (lo len:Nat) (hi:Option Nat):oI (M1 n c len) (mem ys ty xs lo hi):=by delta oI;kernel_rfl
theorem gG (xs:List Int) (lo len:Nat) (bt:Int) (hi:Option Nat):oI (M2 n c len bt) (mem ys ty xs lo hi):=by delta oI;kernel_rfl
theorem jO (xs:List Int) (lo len:Nat) (bt:Int) (j:Nat) (hi:Option Nat):oI (M3 n c len bt j) (mem ys ty xs lo hi):=by delta oI;kernel_rfl
theorem r0:oX ([]:Cons Tryd.prog Gs) 100 R0 (t0 ys n c ty) (aT ys ty) [] .normal (M0 n c) (aT ys ty) []:=by delta oX;kernel_rfl
theorem r1 (g:Nat→SV):oN [0,2] ([]:Cons Tryd.prog Gs) 100 R1 (fill g 0 (M0 n c)) (aT ys ty) [] .normal (M1 n c n) (mem ys ty ((ys.drop 0).take n) n none) [0+n≤ys.length,0<n,Room Tryd.prog 5 n]:=by delta oN;kernel_rfl
end
def Mz (n c:Nat):List (Option SV):=aD 51 0 [(0,.o (.a (.sld 0 0 0 n c))),(1,(aQ .i64).enc (128)),(2,(aQ .i64).enc (16)),(7,.o (.a (.slc 1 0 0 0)))]
section
variable (ys:List Int)
def memz (ty:TypeId):List Blk:=[⟨false,ty,.pre .u8 ys⟩,⟨true,5,.lit []⟩]
theorem idsz (n c:Nat) (ty:TypeId):oI (Mz n c) (memz ys ty):=by delta oI;kernel_rfl
theorem r1z (n c:Nat) (ty:TypeId) (g:Nat→SV):oX ([]:Cons Tryd.prog Gs) 100 R1 (fill g 0 (M0 n c)) (aT ys ty) [(12,[.dyn])] .normal (Mz n c) (memz ys ty) [0+n≤ys.length,n=0,0≤0]:=by delta oX;kernel_rfl
theorem r2z (n c:Nat) (ty:TypeId) (g:Nat→SV):oN [0,3] ([]:Cons Tryd.prog Gs) 100 R2 (fill g 0 (Mz n c)) (memz ys ty) [] .normal (M1 n c 1) (mem ys ty [128] 1 none) [0+1≤1,0<1,Room Tryd.prog 5 1]:=by delta oN;kernel_rfl
theorem r2i (n c:Nat) (ty:TypeId) (xs:List Int) (len:Nat) (g:Nat→SV):oX ([]:Cons Tryd.prog Gs) 100 R2 (fill g 0 (M1 n c len)) (mem ys ty xs (len+1) none) [] .normal (M1 n c (len+1)) (mem ys ty (xs++[128]) (len+1) none) [0+1≤1,len=xs.length,len+1≤len+1]:=by delta oX;kernel_rfl
theorem r2g (n c:Nat) (ty:TypeId) (xs:List Int) (len lo:Nat) (g:Nat→SV):oN [0,3] ([]:Cons Tryd.prog Gs) 100 R2 (fill g 0 (M1 n c len)) (mem ys ty xs lo (some (len+1))) [] .normal (M1 n c (len+1)) (mem ys ty (xs++[128]) (len+1) none) [0+1≤1,len=xs.length,len+1≤len+1,Room Tryd.prog 5 (len+1)]:=by delta oN;kernel_rfl
theorem l1i (n c:Nat) (ty:TypeId) (xs:List Int) (len:Nat) (g:Nat→SV):oX ([]:Cons Tryd.prog Gs) 100 L1 (fill g 0 (M1 n c len)) (mem ys ty xs (len+1) none) [(22,[.b true])] .normal (M1 n c (len+1)) (mem ys ty (xs++[0]) (len+1) none) [((IntKind.i64.wrap ((len:Int)+16)).tmod 128 !=0)=true,0+1≤1,len=xs.length,len+1≤len+1]:=by delta oX;kernel_rfl
theorem l1g (n c:Nat) (ty:TypeId) (xs:List Int) (len lo:Nat) (g:Nat→SV):oN [0,3] ([]:Cons Tryd.prog Gs) 100 L1 (fill g 0 (M1 n c len)) (mem ys ty xs lo (some (len+1))) [(22,[.b true])] .normal (M1 n c (len+1)) (mem ys ty (xs++[0]) (len+1) none) [((IntKind.i64.wrap ((len:Int)+16)).tmod 128 !=0)=true,0+1≤1,len=xs.length,len+1≤len+1,Room Tryd.prog 5 (len+1)]:=by delta oN;kernel_rfl
theorem l1x (n c:Nat) (ty:TypeId) (xs:List Int) (len lo:Nat) (g:Nat→SV):oX ([]:Cons Tryd.prog Gs) 100 L1 (fill g 0 (M1 n c len)) (mem ys ty xs lo none) [(22,[.b false])] (.exit 0) (M1 n c len) (mem ys ty xs lo none) [((IntKind.i64.wrap ((len:Int)+16)).tmod 128 !=0)=false]:=by delta oX;kernel_rfl
theorem r5 (n c:Nat) (ty:TypeId) (xs:List Int) (len lo:Nat) (g:Nat→SV):oX ([]:Cons Tryd.prog Gs) 100 R5 (fill g 0 (M1 n c len)) (mem ys ty xs lo none) [] .normal (M2 n c len (lenV n)) (mem ys ty xs lo none) []:=by delta oX;kernel_rfl
theorem r6 (n c:Nat) (ty:TypeId) (xs:List Int) (len lo:Nat) (bt:Int) (g:Nat→SV):oX ([]:Cons Tryd.prog Gs) 100 R6 (fill g 0 (M2 n c len bt)) (mem ys ty xs lo none) [] .normal (M3 n c len bt 16) (mem ys ty xs lo none) []:=by delta oX;kernel_rfl
theorem l2i (n c:Nat) (ty:TypeId) (xs:List Int) (len:Nat) (bt:Int) (g:Nat→SV):fV (fun i=>jq (mem ys ty (xs++[jM bt i]) (len+1) none).length (M3 n c (len+1) bt i) (exec ([]:Cons Tryd.prog Gs) tys 100 L2 ⟨fill g 0 (M3 n c len bt (i+1)),mem ys ty xs (len+1) none,[]⟩)) 16=fU (fun i=>some (.normal,live (M3 n c (len+1) bt i),(M3 n c (len+1) bt i).length,mem ys ty (xs++[jM bt i]) (len+1) none,[0+1≤1,len=xs.length,len+1≤len+1])) 16:=by kernel_rfl
theorem l2g (n c:Nat) (ty:TypeId) (xs:List Int) (len lo:Nat) (bt:Int) (g:Nat→SV):fV (fun i=>outN [0,3] (M3 n c (len+1) bt i) (exec ([]:Cons Tryd.prog Gs) tys 100 L2 ⟨fill g 0 (M3 n c len bt (i+1)),mem ys ty xs lo (some (len+1)),[]⟩)) 16=fU (fun i=>some (.normal,(live (M3 n c (len+1) bt i)).map (SV.ren (piF [0,3])),(M3 n c (len+1) bt i).length,(mem ys ty (xs++[jM bt i]) (len+1) none).map (fun b=>some (b.ren (piF [0,3]))),[0+1≤1,len=xs.length,len+1≤len+1,Room Tryd.prog 5 (len+1)])) 16:=by kernel_rfl
theorem l2x (n c:Nat) (ty:TypeId) (xs:List Int) (len lo:Nat) (bt:Int) (g:Nat→SV):oX ([]:Cons Tryd.prog Gs) 100 L2 (fill g 0 (M3 n c len bt 0)) (mem ys ty xs lo none) [] (.exit 2) (M1 n c len) (mem ys ty xs lo none) []:=by delta oX;kernel_rfl
noncomputable def fin (n c:Nat) (ty:TypeId) (xs:List Int) (len lo:Nat) (g:Nat→SV):St:=outS ([]:Cons Tryd.prog Gs) tys 100 D ⟨fill g 0 (M1 n c len),mem ys ty xs lo none,[]⟩
theorem d (n c:Nat) (ty:TypeId) (xs:List Int) (len lo:Nat) (g:Nat→SV):exec ([]:Cons Tryd.prog Gs) tys 100 D ⟨fill g 0 (M1 n c len),mem ys ty xs lo none,[]⟩=some (.ret,⟨(fin ys n c ty xs len lo g).tm,(fin ys n c ty xs len lo g).mem,[]⟩,[]):=by kernel_rfl
theorem res (n c:Nat) (ty:TypeId) (xs:List Int) (len lo:Nat) (g:Nat→SV):eRes tys (fin ys n c ty xs len lo g).tm (fun k=>(fin ys n c ty xs len lo g).mem[k]?) fn.results.toList=some [.a (.slg 1 len)]:=by kernel_rfl
theorem row (n c:Nat) (ty:TypeId) (xs:List Int) (len lo:Nat) (g:Nat→SV):(fin ys n c ty xs len lo g).mem[1]? =some ⟨true,5,.gro .u8 xs lo none⟩:=by kernel_rfl
end
end win128
namespace none128
def M0 (a:Option Addr):List (Option SV):=aD 51 0 [(0,.o (.a (.v (.slice a 0 0)))),(1,(aQ .i64).enc (128)),(2,(aQ .i64).enc (16))]
def M1 (a:Option Addr) (len:Nat):List (Option SV):=aD 51 0 [(0,.o (.a (.v (.slice a 0 0)))),(1,(aQ .i64).enc (128)),(2,(aQ .i64).enc (16)),(7,.o (.a (.slg 0 len)))]
def M2 (a:Option Addr) (len:Nat) (bt:Int):List (Option SV):=aD 51 0 [(0,.o (.a (.v (.slice a 0 0)))),(1,(aQ .i64).enc (128)),(2,(aQ .i64).enc (16)),(7,.o (.a (.slg 0 len))),(8,(aQ .u64).enc bt)]
def M3 (a:Option Addr) (len:Nat) (bt:Int) (j:Nat):List (Option SV):=aD 51 0 [(0,.o (.a (.v (.slice a 0 0)))),(1,(aQ .i64).enc (128)),(2,(aQ .i64).enc (16)),(7,.o (.a (.slg 0 len))),(8,(aQ .u64).enc bt),(9,(aQ .i64).enc (((j:Nat):Int)-1))]
def aT:List Blk:=[]
def mem (xs:List Int) (lo:Nat) (hi:Option Nat):List Blk:=[⟨true,5,.gro .u8 xs lo hi⟩]
section
variable (a:Option Addr)
noncomputable def t0:List SV:=aK fn [.o (.a (.v (.slice a 0 0))),(aQ .i64).enc (128),(aQ .i64).enc (16)]
theorem fO:oI (M0 a) (aT):=by delta oI;kernel_rfl
theorem dh (xs:List Int) (lo len:Nat) (hi:Option Nat):oI (M1 a len) (mem xs lo hi):=by delta oI;kernel_rfl
theorem gG (xs:List Int) (lo len:Nat) (bt:Int) (hi:Option Nat):oI (M2 a len bt) (mem xs lo hi):=by delta oI;kernel_rfl
theorem jO (xs:List Int) (lo len:Nat) (bt:Int) (j:Nat) (hi:Option Nat):oI (M3 a len bt j) (mem xs lo hi):=by delta oI;kernel_rfl
theorem r0:oX ([]:Cons Tryd.prog Gs) 100 R0 (t0 a) (aT) [] .normal (M0 a) (aT) []:=by delta oX;kernel_rfl
def Mz:List (Option SV):=aD 51 0 [(0,.o (.a (.v (.slice a 0 0)))),(1,(aQ .i64).enc (128)),(2,(aQ .i64).enc (16)),(7,.o (.a (.slc 0 0 0 0)))]
end
def memz:List Blk:=[⟨true,5,.lit []⟩]
section
variable (a:Option Addr)
theorem idsz:oI (Mz a) (memz):=by delta oI;kernel_rfl
theorem r1z (g:Nat→SV):oX ([]:Cons Tryd.prog Gs) 100 R1 (fill g 0 (M0 a)) (aT) [(12,[.dyn])] .normal (Mz a) (memz) [0=0,0≤0]:=by delta oX;kernel_rfl
theorem r2z (g:Nat→SV):oN [2] ([]:Cons Tryd.prog Gs) 100 R2 (fill g 0 (Mz a)) (memz) [] .normal (M1 a 1) (mem [128] 1 none) [0+1≤1,0<1,Room Tryd.prog 5 1]:=by delta oN;kernel_rfl
theorem l1i (xs:List Int) (len:Nat) (g:Nat→SV):oX ([]:Cons Tryd.prog Gs) 100 L1 (fill g 0 (M1 a len)) (mem xs (len+1) none) [(22,[.b true])] .normal (M1 a (len+1)) (mem (xs++[0]) (len+1) none) [((IntKind.i64.wrap ((len:Int)+16)).tmod 128 !=0)=true,0+1≤1,len=xs.length,len+1≤len+1]:=by delta oX;kernel_rfl
theorem l1g (xs:List Int) (len lo:Nat) (g:Nat→SV):oN [2] ([]:Cons Tryd.prog Gs) 100 L1 (fill g 0 (M1 a len)) (mem xs lo (some (len+1))) [(22,[.b true])] .normal (M1 a (len+1)) (mem (xs++[0]) (len+1) none) [((IntKind.i64.wrap ((len:Int)+16)).tmod 128 !=0)=true,0+1≤1,len=xs.length,len+1≤len+1,Room Tryd.prog 5 (len+1)]:=by delta oN;kernel_rfl
theorem l1x (xs:List Int) (len lo:Nat) (g:Nat→SV):oX ([]:Cons Tryd.prog Gs) 100 L1 (fill g 0 (M1 a len)) (mem xs lo none) [(22,[.b false])] (.exit 0) (M1 a len) (mem xs lo none) [((IntKind.i64.wrap ((len:Int)+16)).tmod 128 !=0)=false]:=by delta oX;kernel_rfl
theorem r5 (xs:List Int) (len lo:Nat) (g:Nat→SV):oX ([]:Cons Tryd.prog Gs) 100 R5 (fill g 0 (M1 a len)) (mem xs lo none) [] .normal (M2 a len (lenV 0)) (mem xs lo none) []:=by delta oX;kernel_rfl
theorem r6 (xs:List Int) (len lo:Nat) (bt:Int) (g:Nat→SV):oX ([]:Cons Tryd.prog Gs) 100 R6 (fill g 0 (M2 a len bt)) (mem xs lo none) [] .normal (M3 a len bt 16) (mem xs lo none) []:=by delta oX;kernel_rfl
theorem l2i (xs:List Int) (len:Nat) (bt:Int) (g:Nat→SV):fV (fun i=>jq (mem (xs++[jM bt i]) (len+1) none).length (M3 a (len+1) bt i) (exec ([]:Cons Tryd.prog Gs) tys 100 L2 ⟨fill g 0 (M3 a len bt (i+1)),mem xs (len+1) none,[]⟩)) 16=fU (fun i=>some (.normal,live (M3 a (len+1) bt i),(M3 a (len+1) bt i).length,mem (xs++[jM bt i]) (len+1) none,[0+1≤1,len=xs.length,len+1≤len+1])) 16:=by kernel_rfl
theorem l2g (xs:List Int) (len lo:Nat) (bt:Int) (g:Nat→SV):fV (fun i=>outN [2] (M3 a (len+1) bt i) (exec ([]:Cons Tryd.prog Gs) tys 100 L2 ⟨fill g 0 (M3 a len bt (i+1)),mem xs lo (some (len+1)),[]⟩)) 16=fU (fun i=>some (.normal,(live (M3 a (len+1) bt i)).map (SV.ren (piF [2])),(M3 a (len+1) bt i).length,(mem (xs++[jM bt i]) (len+1) none).map (fun b=>some (b.ren (piF [2]))),[0+1≤1,len=xs.length,len+1≤len+1,Room Tryd.prog 5 (len+1)])) 16:=by kernel_rfl
theorem l2x (xs:List Int) (len lo:Nat) (bt:Int) (g:Nat→SV):oX ([]:Cons Tryd.prog Gs) 100 L2 (fill g 0 (M3 a len bt 0)) (mem xs lo none) [] (.exit 2) (M1 a len) (mem xs lo none) []:=by delta oX;kernel_rfl
noncomputable def fin (xs:List Int) (len lo:Nat) (g:Nat→SV):St:=outS ([]:Cons Tryd.prog Gs) tys 100 D ⟨fill g 0 (M1 a len),mem xs lo none,[]⟩
theorem d (xs:List Int) (len lo:Nat) (g:Nat→SV):exec ([]:Cons Tryd.prog Gs) tys 100 D ⟨fill g 0 (M1 a len),mem xs lo none,[]⟩=some (.ret,⟨(fin a xs len lo g).tm,(fin a xs len lo g).mem,[]⟩,[]):=by kernel_rfl
theorem res (xs:List Int) (len lo:Nat) (g:Nat→SV):eRes tys (fin a xs len lo g).tm (fun k=>(fin a xs len lo g).mem[k]?) fn.results.toList=some [.a (.slg 0 len)]:=by kernel_rfl
theorem row (xs:List Int) (len lo:Nat) (g:Nat→SV):(fin a xs len lo g).mem[0]? =some ⟨true,5,.gro .u8 xs lo none⟩:=by kernel_rfl
end
end none128
end padd
theorem og (n:Nat):dM n 64 8<64∧(n+1+dM n 64 8+8)%64=0∧∀j,j<dM n 64 8→(n+1+j+8)%64≠0:=by
 unfold dM
 refine⟨by omega,by omega,fun j hj=>by omega⟩
theorem uj (n:Nat):dM n 128 16<128∧(n+1+dM n 128 16+16)%128=0∧∀j,j<dM n 128 16→(n+1+j+16)%128≠0:=by
 unfold dM
 refine⟨by omega,by omega,fun j hj=>by omega⟩
theorem l9 {α:Type} (a:List α) (x:α) (j:Nat):a++List.replicate (j+1) x=(a++List.replicate j x)++[x]:=by
 rw[List.append_assoc,List.replicate_succ']
section
variable {Post:Ex→List SV→List Blk→Prop}
section
variable (ys:List Int) (n c:Nat) (ty:TypeId)
theorem wG (xs0:List Int) (m:Nat) (hm:xs0.length=m+1) (hs:m≤140737488354000) (hp:∀g lo,Post .normal (fill g 0 (padd.win64.M1 n c (m+1+dM m 64 8))) (padd.win64.mem ys ty (xs0++List.replicate (dM m 64 8) 0) lo none)) (lo:Nat) (g:Nat→SV):
  aF Tryd.prog Gs 1 (.block 0 (.loop padd.L1)) (fill g 0 (padd.win64.M1 n c (m+1+0))) (padd.win64.mem ys ty (xs0++List.replicate 0 0) lo none) Post:=by
 obtain⟨z1,z2,z3⟩:=og m
 refine Runs.block ?_
 refine Runs.dA (fun(x:Nat × Nat)=>padd.win64.M1 n c (m+1+x.1)) (fun x=>padd.win64.mem ys ty (xs0++List.replicate x.1 0) x.2 none) (fun x=>x.1≤dM m 64 8) (fun x=>dM m 64 8-x.1) ?_ (0,lo) (Nat.zero_le _) g
 rintro⟨j,lo⟩ g hj
 simp only at hj
 have hlen:(m+1+j)=(xs0++List.replicate j 0).length:=by rw[List.length_append,List.length_replicate,hm]
 have hw:(IntKind.i64.wrap (((m+1+j:Nat):Int)+8)).tmod 64=(((m+1+j+8)%64:Nat):Int):=by
  rw[jP _ (by omega) (by omega),Int.tmod_eq_emod_of_nonneg (by omega)];omega
 by_cases hlt:j<dM m 64 8
 ·have ht:((IntKind.i64.wrap (((m+1+j:Nat):Int)+8)).tmod 64 !=0)=true:=by
   rw[hw,bne_iff_ne]
   have:=z3 j hlt
   omega
  refine Runs.room 1 (m+1+j+1) (own:=true) (ty:=5) (kd:= .u8) (xs:=xs0++List.replicate j 0) (lo:=lo) rfl ?_ ?_
  ·refine Runs.au aj mixed (padd.win64.l1i ys n c ty (xs0++List.replicate j 0) (m+1+j) g) ⟨ht,by omega,hlen,by omega,trivial⟩ (padd.win64.dh ys n c ty _ _ _ _) rfl fun g'=>⟨(j+1,m+1+j+1),g',rfl,?_,hlt,by simp only;omega⟩
   simp only;rw[l9]
  ·refine Runs.aP aj mixed _ (padd.win64.l1g ys n c ty (xs0++List.replicate j 0) (m+1+j) lo g) ⟨ht,by omega,hlen,by omega,iO _ (by omega),trivial⟩ (padd.win64.dh ys n c ty _ _ _ _) rfl fun g'=>⟨(j+1,m+1+j+1),g',rfl,?_,hlt,by simp only;omega⟩
   simp only;rw[l9]
 ·obtain rfl:j=dM m 64 8:=by omega
  refine Runs.au aj mixed (padd.win64.l1x ys n c ty (xs0++List.replicate _ 0) (m+1+dM m 64 8) lo g) ⟨?_,trivial⟩ (padd.win64.dh ys n c ty _ _ _ _) rfl fun g'=>hp g' lo
  rw[hw]
  have:=z2
  simp only[bne_eq_false_iff_eq]
  omega
theorem wF (xs0:List Int) (m:Nat) (hm:xs0.length=m) (hs:m≤140737488355000) (bt:Int) (hp:∀g,Post .normal (fill g 0 (padd.win64.M1 n c (m+(8-0)))) (padd.win64.mem ys ty (xs0++fM bt 8) (m+(8-0)) none)) (lo:Nat) (g:Nat→SV):
  aF Tryd.prog Gs 1 (.block 2 (.loop padd.L2)) (fill g 0 (padd.win64.M3 n c (m+(8-8)) bt 8)) (padd.win64.mem ys ty xs0 lo none) Post:=by
 refine Runs.block ?_
 refine Runs.dA (fun(x:Nat × List Int × Nat)=>padd.win64.M3 n c (m+(8-x.1)) bt x.1) (fun x=>padd.win64.mem ys ty x.2.1 x.2.2 none) (fun x=>x.1≤8∧x.2.1.length=m+(8-x.1)∧x.2.1++fM bt x.1=xs0++fM bt 8∧(x.1=8∨x.2.2=m+(8-x.1))) (fun x=>x.1) ?_ (8,xs0,lo) ⟨Nat.le_refl _,by simp only;omega,rfl,.inl rfl⟩ g
 rintro⟨j,xs,lo⟩ g ⟨hj,hl,he,hlo⟩
 simp only at hj hl he hlo
 cases j with
 | zero=>
  have he:xs=xs0++fM bt 8:=by rw[←he];exact(List.append_nil _).symm
  subst he
  obtain rfl:lo=m+(8-0):=by omega
  exact Runs.au aj mixed (padd.win64.l2x ys n c ty (xs0++fM bt 8) (m+(8-0)) (m+(8-0)) bt g) trivial (padd.win64.dh ys n c ty _ _ _ _) rfl hp
 | succ i=>
  have hlen:m+(8-(i+1))=xs.length:=hl.symm
  have e1:m+(8-(i+1))+1=m+(8-i):=by omega
  have e2:(xs++[jM bt i])++fM bt i=xs0++fM bt 8:=by rw[←he,List.append_assoc];rfl
  refine Runs.room 1 (m+(8-(i+1))+1) (own:=true) (ty:=5) (kd:= .u8) (xs:=xs) (lo:=lo) rfl ?_ ?_
  ·refine Runs.au aj mixed (dK (padd.win64.l2i ys n c ty xs (m+(8-(i+1))) bt g) i (by omega)) ⟨by omega,hlen,by omega,trivial⟩ (padd.win64.jO ys n c ty _ _ _ _ _ _) rfl fun g'=>⟨(i,xs++[jM bt i],m+(8-(i+1))+1),g',?_,rfl,⟨by simp only;omega,by simp only[List.length_append,List.length_singleton];omega,e2,.inr e1⟩,by simp only;omega⟩
   simp only;rw[e1]
  ·refine Runs.aP aj mixed _ (dK (padd.win64.l2g ys n c ty xs (m+(8-(i+1))) lo bt g) i (by omega)) ⟨by omega,hlen,by omega,iO _ (by omega),trivial⟩ (padd.win64.jO ys n c ty _ _ _ _ _ _) rfl fun g'=>⟨(i,xs++[jM bt i],m+(8-(i+1))+1),g',?_,rfl,⟨by simp only;omega,by simp only[List.length_append,List.length_singleton];omega,e2,.inr e1⟩,by simp only;omega⟩
   simp only;rw[e1]
theorem oF (hy:(ys:List Int).length=n) (hs:n≤140737488354000) (lo:Nat) (g:Nat→SV):
  aF Tryd.prog Gs 1 (.seq (.block 0 (.loop padd.L1)) (.seq padd.R5 (.seq (.seq padd.R6 (.block 2 (.loop padd.L2))) padd.D))) (fill g 0 (padd.win64.M1 n c (n+1))) (padd.win64.mem ys ty (ys++[128]) lo none) (aH tys padd.fn (bJ (.o (.a (.slg 0 (bV ys 64 8).length))) (.new 5 (.gro .u8 (bV ys 64 8) (bV ys 64 8).length none)))):=by
 obtain⟨z1,z2,z3⟩:=og n
 have h0:(ys:List Int)++[128]++List.replicate 0 0=ys++[128]:=List.append_nil _
 rw[←h0]
 refine Runs.seq (wG ys n c ty (ys++[128]) n (by simp only[List.length_append,List.length_singleton,hy]) hs (fun g lo=> ?_) lo g)
 refine Runs.seq (Runs.au aj mixed (padd.win64.r5 ys n c ty _ _ lo g) trivial (padd.win64.gG ys n c ty _ _ _ _ _) rfl fun g=> ?_)
 refine Runs.seq (Runs.seq (Runs.au aj mixed (padd.win64.r6 ys n c ty _ _ lo _ g) trivial (padd.win64.jO ys n c ty _ _ _ _ _ _) rfl fun g=> ?_))
 refine wF ys n c ty (ys++[128]++List.replicate (dM n 64 8) 0) (n+1+dM n 64 8) (by simp only[List.length_append,List.length_singleton,List.length_replicate,hy]) (by omega) (lenV n) (fun g=> ?_) lo g
 have ex:(ys++[128]++List.replicate (dM n 64 8) 0)++fM (lenV n) 8=bV ys 64 8:=by
  unfold bV
  rw[hy,List.append_assoc,List.append_assoc]
 have el:n+1+dM n 64 8+(8-0)=(bV ys 64 8).length:=by
  rw[←ex]
  simp only[List.length_append,List.length_singleton,List.length_replicate,jB,hy]
 refine Runs.eB aj mixed (padd.win64.d ys n c ty _ _ _ g) trivial (aH.ret (padd.win64.res ys n c ty _ _ _ g) ⟨1,?_,?_⟩)
 ·rw[←el];rfl
 ·rw[←el,←ex]
  exact padd.win64.row ys n c ty _ _ _ g
theorem padd_win64_run (hy:(ys:List Int).length=n) (hs:n≤140737488354000):
  aF Tryd.prog Gs 1 padd.body (padd.win64.t0 ys n c ty) (padd.win64.aT ys ty) (aH tys padd.fn (bJ (.o (.a (.slg 0 (bV ys 64 8).length))) (.new 5 (.gro .u8 (bV ys 64 8) (bV ys 64 8).length none)))):=by
 rw[padd.ku]
 refine Runs.seq (Runs.au aj mixed (padd.win64.r0 ys n c ty) trivial (padd.win64.fO ys n c ty) rfl fun g=> ?_)
 by_cases hn:n=0
 ·have hz:ys=[]:=List.eq_nil_of_length_eq_zero (by omega)
  subst hn hz
  refine Runs.seq (Runs.au aj mixed (padd.win64.r1z [] 0 c ty g) ⟨by decide,rfl,by decide,trivial⟩ (padd.win64.idsz [] 0 c ty) rfl fun g=> ?_)
  refine Runs.seq (Runs.aP aj mixed _ (padd.win64.r2z [] 0 c ty g) ⟨by decide,by decide,iO _ (by omega),trivial⟩ (padd.win64.dh [] 0 c ty _ _ _ _) rfl fun g=> ?_)
  exact oF [] 0 c ty rfl (by omega) 1 g
 ·refine Runs.seq (Runs.aP aj mixed _ (padd.win64.r1 ys n c ty g) ⟨by omega,by omega,iO _ (by omega),trivial⟩ (padd.win64.dh ys n c ty _ _ _ _) rfl fun g=> ?_)
  have e:(ys.drop 0).take n=ys:=by rw[List.drop_zero,List.take_of_length_le (by omega)]
  show aF _ _ _ _ _ (padd.win64.mem ys ty ((ys.drop 0).take n) n none) _
  rw[e]
  refine Runs.room 1 (n+1) (own:=true) (ty:=5) (kd:= .u8) (xs:=ys) (lo:=n) rfl ?_ ?_
  ·refine Runs.seq (Runs.au aj mixed (padd.win64.r2i ys n c ty ys n g) ⟨by omega,hy.symm,by omega,trivial⟩ (padd.win64.dh ys n c ty _ _ _ _) rfl fun g=> ?_)
   exact oF ys n c ty hy hs _ g
  ·refine Runs.seq (Runs.aP aj mixed _ (padd.win64.r2g ys n c ty ys n n g) ⟨by omega,hy.symm,by omega,iO _ (by omega),trivial⟩ (padd.win64.dh ys n c ty _ _ _ _) rfl fun g=> ?_)
   exact oF ys n c ty hy hs _ g
end
theorem vR (a:Option Addr) (xs0:List Int) (m:Nat) (hm:xs0.length=m+1) (hs:m≤140737488354000) (hp:∀g lo,Post .normal (fill g 0 (padd.none64.M1 a (m+1+dM m 64 8))) (padd.none64.mem (xs0++List.replicate (dM m 64 8) 0) lo none)) (lo:Nat) (g:Nat→SV):
  aF Tryd.prog Gs 0 (.block 0 (.loop padd.L1)) (fill g 0 (padd.none64.M1 a (m+1+0))) (padd.none64.mem (xs0++List.replicate 0 0) lo none) Post:=by
 obtain⟨z1,z2,z3⟩:=og m
 refine Runs.block ?_
 refine Runs.dA (fun(x:Nat × Nat)=>padd.none64.M1 a (m+1+x.1)) (fun x=>padd.none64.mem (xs0++List.replicate x.1 0) x.2 none) (fun x=>x.1≤dM m 64 8) (fun x=>dM m 64 8-x.1) ?_ (0,lo) (Nat.zero_le _) g
 rintro⟨j,lo⟩ g hj
 simp only at hj
 have hlen:(m+1+j)=(xs0++List.replicate j 0).length:=by rw[List.length_append,List.length_replicate,hm]
 have hw:(IntKind.i64.wrap (((m+1+j:Nat):Int)+8)).tmod 64=(((m+1+j+8)%64:Nat):Int):=by
  rw[jP _ (by omega) (by omega),Int.tmod_eq_emod_of_nonneg (by omega)];omega
 by_cases hlt:j<dM m 64 8
 ·have ht:((IntKind.i64.wrap (((m+1+j:Nat):Int)+8)).tmod 64 !=0)=true:=by
   rw[hw,bne_iff_ne]
   have:=z3 j hlt
   omega
  refine Runs.room 0 (m+1+j+1) (own:=true) (ty:=5) (kd:= .u8) (xs:=xs0++List.replicate j 0) (lo:=lo) rfl ?_ ?_
  ·refine Runs.au aj mixed (padd.none64.l1i a (xs0++List.replicate j 0) (m+1+j) g) ⟨ht,by omega,hlen,by omega,trivial⟩ (padd.none64.dh a _ _ _ _) rfl fun g'=>⟨(j+1,m+1+j+1),g',rfl,?_,hlt,by simp only;omega⟩
   simp only;rw[l9]
  ·refine Runs.aP aj mixed _ (padd.none64.l1g a (xs0++List.replicate j 0) (m+1+j) lo g) ⟨ht,by omega,hlen,by omega,iO _ (by omega),trivial⟩ (padd.none64.dh a _ _ _ _) rfl fun g'=>⟨(j+1,m+1+j+1),g',rfl,?_,hlt,by simp only;omega⟩
   simp only;rw[l9]
 ·obtain rfl:j=dM m 64 8:=by omega
  refine Runs.au aj mixed (padd.none64.l1x a (xs0++List.replicate _ 0) (m+1+dM m 64 8) lo g) ⟨?_,trivial⟩ (padd.none64.dh a _ _ _ _) rfl fun g'=>hp g' lo
  rw[hw]
  have:=z2
  simp only[bne_eq_false_iff_eq]
  omega
theorem vQ (a:Option Addr) (xs0:List Int) (m:Nat) (hm:xs0.length=m) (hs:m≤140737488355000) (bt:Int) (hp:∀g,Post .normal (fill g 0 (padd.none64.M1 a (m+(8-0)))) (padd.none64.mem (xs0++fM bt 8) (m+(8-0)) none)) (lo:Nat) (g:Nat→SV):
  aF Tryd.prog Gs 0 (.block 2 (.loop padd.L2)) (fill g 0 (padd.none64.M3 a (m+(8-8)) bt 8)) (padd.none64.mem xs0 lo none) Post:=by
 refine Runs.block ?_
 refine Runs.dA (fun(x:Nat × List Int × Nat)=>padd.none64.M3 a (m+(8-x.1)) bt x.1) (fun x=>padd.none64.mem x.2.1 x.2.2 none) (fun x=>x.1≤8∧x.2.1.length=m+(8-x.1)∧x.2.1++fM bt x.1=xs0++fM bt 8∧(x.1=8∨x.2.2=m+(8-x.1))) (fun x=>x.1) ?_ (8,xs0,lo) ⟨Nat.le_refl _,by simp only;omega,rfl,.inl rfl⟩ g
 rintro⟨j,xs,lo⟩ g ⟨hj,hl,he,hlo⟩
 simp only at hj hl he hlo
 cases j with
 | zero=>
  have he:xs=xs0++fM bt 8:=by rw[←he];exact(List.append_nil _).symm
  subst he
  obtain rfl:lo=m+(8-0):=by omega
  exact Runs.au aj mixed (padd.none64.l2x a (xs0++fM bt 8) (m+(8-0)) (m+(8-0)) bt g) trivial (padd.none64.dh a _ _ _ _) rfl hp
 | succ i=>
  have hlen:m+(8-(i+1))=xs.length:=hl.symm
  have e1:m+(8-(i+1))+1=m+(8-i):=by omega
  have e2:(xs++[jM bt i])++fM bt i=xs0++fM bt 8:=by rw[←he,List.append_assoc];rfl
  refine Runs.room 0 (m+(8-(i+1))+1) (own:=true) (ty:=5) (kd:= .u8) (xs:=xs) (lo:=lo) rfl ?_ ?_
  ·refine Runs.au aj mixed (dK (padd.none64.l2i a xs (m+(8-(i+1))) bt g) i (by omega)) ⟨by omega,hlen,by omega,trivial⟩ (padd.none64.jO a _ _ _ _ _ _) rfl fun g'=>⟨(i,xs++[jM bt i],m+(8-(i+1))+1),g',?_,rfl,⟨by simp only;omega,by simp only[List.length_append,List.length_singleton];omega,e2,.inr e1⟩,by simp only;omega⟩
   simp only;rw[e1]
  ·refine Runs.aP aj mixed _ (dK (padd.none64.l2g a xs (m+(8-(i+1))) lo bt g) i (by omega)) ⟨by omega,hlen,by omega,iO _ (by omega),trivial⟩ (padd.none64.jO a _ _ _ _ _ _) rfl fun g'=>⟨(i,xs++[jM bt i],m+(8-(i+1))+1),g',?_,rfl,⟨by simp only;omega,by simp only[List.length_append,List.length_singleton];omega,e2,.inr e1⟩,by simp only;omega⟩
   simp only;rw[e1]
theorem wH (a:Option Addr) (hy:([]:List Int).length=0) (hs:0≤140737488354000) (lo:Nat) (g:Nat→SV):
  aF Tryd.prog Gs 0 (.seq (.block 0 (.loop padd.L1)) (.seq padd.R5 (.seq (.seq padd.R6 (.block 2 (.loop padd.L2))) padd.D))) (fill g 0 (padd.none64.M1 a (0+1))) (padd.none64.mem ([]++[128]) lo none) (aH tys padd.fn (bJ (.o (.a (.slg 0 (bV [] 64 8).length))) (.new 5 (.gro .u8 (bV [] 64 8) (bV [] 64 8).length none)))):=by
 obtain⟨z1,z2,z3⟩:=og 0
 have h0:([]:List Int)++[128]++List.replicate 0 0=[]++[128]:=List.append_nil _
 rw[←h0]
 refine Runs.seq (vR a ([]++[128]) 0 (by simp only[List.length_append,List.length_singleton,hy]) hs (fun g lo=> ?_) lo g)
 refine Runs.seq (Runs.au aj mixed (padd.none64.r5 a _ _ lo g) trivial (padd.none64.gG a _ _ _ _ _) rfl fun g=> ?_)
 refine Runs.seq (Runs.seq (Runs.au aj mixed (padd.none64.r6 a _ _ lo _ g) trivial (padd.none64.jO a _ _ _ _ _ _) rfl fun g=> ?_))
 refine vQ a ([]++[128]++List.replicate (dM 0 64 8) 0) (0+1+dM 0 64 8) (by simp only[List.length_append,List.length_singleton,List.length_replicate,hy]) (by omega) (lenV 0) (fun g=> ?_) lo g
 have ex:([]++[128]++List.replicate (dM 0 64 8) 0)++fM (lenV 0) 8=bV [] 64 8:=by
  unfold bV
  rw[hy,List.append_assoc,List.append_assoc]
 have el:0+1+dM 0 64 8+(8-0)=(bV [] 64 8).length:=by
  rw[←ex]
  simp only[List.length_append,List.length_singleton,List.length_replicate,jB,hy]
 refine Runs.eB aj mixed (padd.none64.d a _ _ _ g) trivial (aH.ret (padd.none64.res a _ _ _ g) ⟨0,?_,?_⟩)
 ·rw[←el];rfl
 ·rw[←el,←ex]
  exact padd.none64.row a _ _ _ g
theorem wS (a:Option Addr) (hy:([]:List Int).length=0) (hs:0≤140737488354000):
  aF Tryd.prog Gs 0 padd.body (padd.none64.t0 a) (padd.none64.aT) (aH tys padd.fn (bJ (.o (.a (.slg 0 (bV [] 64 8).length))) (.new 5 (.gro .u8 (bV [] 64 8) (bV [] 64 8).length none)))):=by
 rw[padd.ku]
 refine Runs.seq (Runs.au aj mixed (padd.none64.r0 a) trivial (padd.none64.fO a) rfl fun g=> ?_)
 refine Runs.seq (Runs.au aj mixed (padd.none64.r1z a g) ⟨rfl,by decide,trivial⟩ (padd.none64.idsz a) rfl fun g=> ?_)
 refine Runs.seq (Runs.aP aj mixed _ (padd.none64.r2z a g) ⟨by decide,by decide,iO _ (by omega),trivial⟩ (padd.none64.dh a _ _ _ _) rfl fun g=> ?_)
 exact wH a rfl (by omega) 1 g
section
variable (ys:List Int) (n c:Nat) (ty:TypeId)
theorem vP (xs0:List Int) (m:Nat) (hm:xs0.length=m+1) (hs:m≤140737488354000) (hp:∀g lo,Post .normal (fill g 0 (padd.win128.M1 n c (m+1+dM m 128 16))) (padd.win128.mem ys ty (xs0++List.replicate (dM m 128 16) 0) lo none)) (lo:Nat) (g:Nat→SV):
  aF Tryd.prog Gs 1 (.block 0 (.loop padd.L1)) (fill g 0 (padd.win128.M1 n c (m+1+0))) (padd.win128.mem ys ty (xs0++List.replicate 0 0) lo none) Post:=by
 obtain⟨z1,z2,z3⟩:=uj m
 refine Runs.block ?_
 refine Runs.dA (fun(x:Nat × Nat)=>padd.win128.M1 n c (m+1+x.1)) (fun x=>padd.win128.mem ys ty (xs0++List.replicate x.1 0) x.2 none) (fun x=>x.1≤dM m 128 16) (fun x=>dM m 128 16-x.1) ?_ (0,lo) (Nat.zero_le _) g
 rintro⟨j,lo⟩ g hj
 simp only at hj
 have hlen:(m+1+j)=(xs0++List.replicate j 0).length:=by rw[List.length_append,List.length_replicate,hm]
 have hw:(IntKind.i64.wrap (((m+1+j:Nat):Int)+16)).tmod 128=(((m+1+j+16)%128:Nat):Int):=by
  rw[jP _ (by omega) (by omega),Int.tmod_eq_emod_of_nonneg (by omega)];omega
 by_cases hlt:j<dM m 128 16
 ·have ht:((IntKind.i64.wrap (((m+1+j:Nat):Int)+16)).tmod 128 !=0)=true:=by
   rw[hw,bne_iff_ne]
   have:=z3 j hlt
   omega
  refine Runs.room 1 (m+1+j+1) (own:=true) (ty:=5) (kd:= .u8) (xs:=xs0++List.replicate j 0) (lo:=lo) rfl ?_ ?_
  ·refine Runs.au aj mixed (padd.win128.l1i ys n c ty (xs0++List.replicate j 0) (m+1+j) g) ⟨ht,by omega,hlen,by omega,trivial⟩ (padd.win128.dh ys n c ty _ _ _ _) rfl fun g'=>⟨(j+1,m+1+j+1),g',rfl,?_,hlt,by simp only;omega⟩
   simp only;rw[l9]
  ·refine Runs.aP aj mixed _ (padd.win128.l1g ys n c ty (xs0++List.replicate j 0) (m+1+j) lo g) ⟨ht,by omega,hlen,by omega,iO _ (by omega),trivial⟩ (padd.win128.dh ys n c ty _ _ _ _) rfl fun g'=>⟨(j+1,m+1+j+1),g',rfl,?_,hlt,by simp only;omega⟩
   simp only;rw[l9]
 ·obtain rfl:j=dM m 128 16:=by omega
  refine Runs.au aj mixed (padd.win128.l1x ys n c ty (xs0++List.replicate _ 0) (m+1+dM m 128 16) lo g) ⟨?_,trivial⟩ (padd.win128.dh ys n c ty _ _ _ _) rfl fun g'=>hp g' lo
  rw[hw]
  have:=z2
  simp only[bne_eq_false_iff_eq]
  omega
theorem vO (xs0:List Int) (m:Nat) (hm:xs0.length=m) (hs:m≤140737488355000) (bt:Int) (hp:∀g,Post .normal (fill g 0 (padd.win128.M1 n c (m+(16-0)))) (padd.win128.mem ys ty (xs0++fM bt 16) (m+(16-0)) none)) (lo:Nat) (g:Nat→SV):
  aF Tryd.prog Gs 1 (.block 2 (.loop padd.L2)) (fill g 0 (padd.win128.M3 n c (m+(16-16)) bt 16)) (padd.win128.mem ys ty xs0 lo none) Post:=by
 refine Runs.block ?_
 refine Runs.dA (fun(x:Nat × List Int × Nat)=>padd.win128.M3 n c (m+(16-x.1)) bt x.1) (fun x=>padd.win128.mem ys ty x.2.1 x.2.2 none) (fun x=>x.1≤16∧x.2.1.length=m+(16-x.1)∧x.2.1++fM bt x.1=xs0++fM bt 16∧(x.1=16∨x.2.2=m+(16-x.1))) (fun x=>x.1) ?_ (16,xs0,lo) ⟨Nat.le_refl _,by simp only;omega,rfl,.inl rfl⟩ g
 rintro⟨j,xs,lo⟩ g ⟨hj,hl,he,hlo⟩
 simp only at hj hl he hlo
 cases j with
 | zero=>
  have he:xs=xs0++fM bt 16:=by rw[←he];exact(List.append_nil _).symm
  subst he
  obtain rfl:lo=m+(16-0):=by omega
  exact Runs.au aj mixed (padd.win128.l2x ys n c ty (xs0++fM bt 16) (m+(16-0)) (m+(16-0)) bt g) trivial (padd.win128.dh ys n c ty _ _ _ _) rfl hp
 | succ i=>
  have hlen:m+(16-(i+1))=xs.length:=hl.symm
  have e1:m+(16-(i+1))+1=m+(16-i):=by omega
  have e2:(xs++[jM bt i])++fM bt i=xs0++fM bt 16:=by rw[←he,List.append_assoc];rfl
  refine Runs.room 1 (m+(16-(i+1))+1) (own:=true) (ty:=5) (kd:= .u8) (xs:=xs) (lo:=lo) rfl ?_ ?_
  ·refine Runs.au aj mixed (dK (padd.win128.l2i ys n c ty xs (m+(16-(i+1))) bt g) i (by omega)) ⟨by omega,hlen,by omega,trivial⟩ (padd.win128.jO ys n c ty _ _ _ _ _ _) rfl fun g'=>⟨(i,xs++[jM bt i],m+(16-(i+1))+1),g',?_,rfl,⟨by simp only;omega,by simp only[List.length_append,List.length_singleton];omega,e2,.inr e1⟩,by simp only;omega⟩
   simp only;rw[e1]
  ·refine Runs.aP aj mixed _ (dK (padd.win128.l2g ys n c ty xs (m+(16-(i+1))) lo bt g) i (by omega)) ⟨by omega,hlen,by omega,iO _ (by omega),trivial⟩ (padd.win128.jO ys n c ty _ _ _ _ _ _) rfl fun g'=>⟨(i,xs++[jM bt i],m+(16-(i+1))+1),g',?_,rfl,⟨by simp only;omega,by simp only[List.length_append,List.length_singleton];omega,e2,.inr e1⟩,by simp only;omega⟩
   simp only;rw[e1]
theorem nX (hy:(ys:List Int).length=n) (hs:n≤140737488354000) (lo:Nat) (g:Nat→SV):
  aF Tryd.prog Gs 1 (.seq (.block 0 (.loop padd.L1)) (.seq padd.R5 (.seq (.seq padd.R6 (.block 2 (.loop padd.L2))) padd.D))) (fill g 0 (padd.win128.M1 n c (n+1))) (padd.win128.mem ys ty (ys++[128]) lo none) (aH tys padd.fn (bJ (.o (.a (.slg 0 (bV ys 128 16).length))) (.new 5 (.gro .u8 (bV ys 128 16) (bV ys 128 16).length none)))):=by
 obtain⟨z1,z2,z3⟩:=uj n
 have h0:(ys:List Int)++[128]++List.replicate 0 0=ys++[128]:=List.append_nil _
 rw[←h0]
 refine Runs.seq (vP ys n c ty (ys++[128]) n (by simp only[List.length_append,List.length_singleton,hy]) hs (fun g lo=> ?_) lo g)
 refine Runs.seq (Runs.au aj mixed (padd.win128.r5 ys n c ty _ _ lo g) trivial (padd.win128.gG ys n c ty _ _ _ _ _) rfl fun g=> ?_)
 refine Runs.seq (Runs.seq (Runs.au aj mixed (padd.win128.r6 ys n c ty _ _ lo _ g) trivial (padd.win128.jO ys n c ty _ _ _ _ _ _) rfl fun g=> ?_))
 refine vO ys n c ty (ys++[128]++List.replicate (dM n 128 16) 0) (n+1+dM n 128 16) (by simp only[List.length_append,List.length_singleton,List.length_replicate,hy]) (by omega) (lenV n) (fun g=> ?_) lo g
 have ex:(ys++[128]++List.replicate (dM n 128 16) 0)++fM (lenV n) 16=bV ys 128 16:=by
  unfold bV
  rw[hy,List.append_assoc,List.append_assoc]
 have el:n+1+dM n 128 16+(16-0)=(bV ys 128 16).length:=by
  rw[←ex]
  simp only[List.length_append,List.length_singleton,List.length_replicate,jB,hy]
 refine Runs.eB aj mixed (padd.win128.d ys n c ty _ _ _ g) trivial (aH.ret (padd.win128.res ys n c ty _ _ _ g) ⟨1,?_,?_⟩)
 ·rw[←el];rfl
 ·rw[←el,←ex]
  exact padd.win128.row ys n c ty _ _ _ g
theorem wR (hy:(ys:List Int).length=n) (hs:n≤140737488354000):
  aF Tryd.prog Gs 1 padd.body (padd.win128.t0 ys n c ty) (padd.win128.aT ys ty) (aH tys padd.fn (bJ (.o (.a (.slg 0 (bV ys 128 16).length))) (.new 5 (.gro .u8 (bV ys 128 16) (bV ys 128 16).length none)))):=by
 rw[padd.ku]
 refine Runs.seq (Runs.au aj mixed (padd.win128.r0 ys n c ty) trivial (padd.win128.fO ys n c ty) rfl fun g=> ?_)
 by_cases hn:n=0
 ·have hz:ys=[]:=List.eq_nil_of_length_eq_zero (by omega)
  subst hn hz
  refine Runs.seq (Runs.au aj mixed (padd.win128.r1z [] 0 c ty g) ⟨by decide,rfl,by decide,trivial⟩ (padd.win128.idsz [] 0 c ty) rfl fun g=> ?_)
  refine Runs.seq (Runs.aP aj mixed _ (padd.win128.r2z [] 0 c ty g) ⟨by decide,by decide,iO _ (by omega),trivial⟩ (padd.win128.dh [] 0 c ty _ _ _ _) rfl fun g=> ?_)
  exact nX [] 0 c ty rfl (by omega) 1 g
 ·refine Runs.seq (Runs.aP aj mixed _ (padd.win128.r1 ys n c ty g) ⟨by omega,by omega,iO _ (by omega),trivial⟩ (padd.win128.dh ys n c ty _ _ _ _) rfl fun g=> ?_)
  have e:(ys.drop 0).take n=ys:=by rw[List.drop_zero,List.take_of_length_le (by omega)]
  show aF _ _ _ _ _ (padd.win128.mem ys ty ((ys.drop 0).take n) n none) _
  rw[e]
  refine Runs.room 1 (n+1) (own:=true) (ty:=5) (kd:= .u8) (xs:=ys) (lo:=n) rfl ?_ ?_
  ·refine Runs.seq (Runs.au aj mixed (padd.win128.r2i ys n c ty ys n g) ⟨by omega,hy.symm,by omega,trivial⟩ (padd.win128.dh ys n c ty _ _ _ _) rfl fun g=> ?_)
   exact nX ys n c ty hy hs _ g
  ·refine Runs.seq (Runs.aP aj mixed _ (padd.win128.r2g ys n c ty ys n n g) ⟨by omega,hy.symm,by omega,iO _ (by omega),trivial⟩ (padd.win128.dh ys n c ty _ _ _ _) rfl fun g=> ?_)
   exact nX ys n c ty hy hs _ g
end
theorem vv (a:Option Addr) (xs0:List Int) (m:Nat) (hm:xs0.length=m+1) (hs:m≤140737488354000) (hp:∀g lo,Post .normal (fill g 0 (padd.none128.M1 a (m+1+dM m 128 16))) (padd.none128.mem (xs0++List.replicate (dM m 128 16) 0) lo none)) (lo:Nat) (g:Nat→SV):
  aF Tryd.prog Gs 0 (.block 0 (.loop padd.L1)) (fill g 0 (padd.none128.M1 a (m+1+0))) (padd.none128.mem (xs0++List.replicate 0 0) lo none) Post:=by
 obtain⟨z1,z2,z3⟩:=uj m
 refine Runs.block ?_
 refine Runs.dA (fun(x:Nat × Nat)=>padd.none128.M1 a (m+1+x.1)) (fun x=>padd.none128.mem (xs0++List.replicate x.1 0) x.2 none) (fun x=>x.1≤dM m 128 16) (fun x=>dM m 128 16-x.1) ?_ (0,lo) (Nat.zero_le _) g
 rintro⟨j,lo⟩ g hj
 simp only at hj
 have hlen:(m+1+j)=(xs0++List.replicate j 0).length:=by rw[List.length_append,List.length_replicate,hm]
 have hw:(IntKind.i64.wrap (((m+1+j:Nat):Int)+16)).tmod 128=(((m+1+j+16)%128:Nat):Int):=by
  rw[jP _ (by omega) (by omega),Int.tmod_eq_emod_of_nonneg (by omega)];omega
 by_cases hlt:j<dM m 128 16
 ·have ht:((IntKind.i64.wrap (((m+1+j:Nat):Int)+16)).tmod 128 !=0)=true:=by
   rw[hw,bne_iff_ne]
   have:=z3 j hlt
   omega
  refine Runs.room 0 (m+1+j+1) (own:=true) (ty:=5) (kd:= .u8) (xs:=xs0++List.replicate j 0) (lo:=lo) rfl ?_ ?_
  ·refine Runs.au aj mixed (padd.none128.l1i a (xs0++List.replicate j 0) (m+1+j) g) ⟨ht,by omega,hlen,by omega,trivial⟩ (padd.none128.dh a _ _ _ _) rfl fun g'=>⟨(j+1,m+1+j+1),g',rfl,?_,hlt,by simp only;omega⟩
   simp only;rw[l9]
  ·refine Runs.aP aj mixed _ (padd.none128.l1g a (xs0++List.replicate j 0) (m+1+j) lo g) ⟨ht,by omega,hlen,by omega,iO _ (by omega),trivial⟩ (padd.none128.dh a _ _ _ _) rfl fun g'=>⟨(j+1,m+1+j+1),g',rfl,?_,hlt,by simp only;omega⟩
   simp only;rw[l9]
 ·obtain rfl:j=dM m 128 16:=by omega
  refine Runs.au aj mixed (padd.none128.l1x a (xs0++List.replicate _ 0) (m+1+dM m 128 16) lo g) ⟨?_,trivial⟩ (padd.none128.dh a _ _ _ _) rfl fun g'=>hp g' lo
  rw[hw]
  have:=z2
  simp only[bne_eq_false_iff_eq]
  omega
theorem vo (a:Option Addr) (xs0:List Int) (m:Nat) (hm:xs0.length=m) (hs:m≤140737488355000) (bt:Int) (hp:∀g,Post .normal (fill g 0 (padd.none128.M1 a (m+(16-0)))) (padd.none128.mem (xs0++fM bt 16) (m+(16-0)) none)) (lo:Nat) (g:Nat→SV):
  aF Tryd.prog Gs 0 (.block 2 (.loop padd.L2)) (fill g 0 (padd.none128.M3 a (m+(16-16)) bt 16)) (padd.none128.mem xs0 lo none) Post:=by
 refine Runs.block ?_
 refine Runs.dA (fun(x:Nat × List Int × Nat)=>padd.none128.M3 a (m+(16-x.1)) bt x.1) (fun x=>padd.none128.mem x.2.1 x.2.2 none) (fun x=>x.1≤16∧x.2.1.length=m+(16-x.1)∧x.2.1++fM bt x.1=xs0++fM bt 16∧(x.1=16∨x.2.2=m+(16-x.1))) (fun x=>x.1) ?_ (16,xs0,lo) ⟨Nat.le_refl _,by simp only;omega,rfl,.inl rfl⟩ g
 rintro⟨j,xs,lo⟩ g ⟨hj,hl,he,hlo⟩
 simp only at hj hl he hlo
 cases j with
 | zero=>
  have he:xs=xs0++fM bt 16:=by rw[←he];exact(List.append_nil _).symm
  subst he
  obtain rfl:lo=m+(16-0):=by omega
  exact Runs.au aj mixed (padd.none128.l2x a (xs0++fM bt 16) (m+(16-0)) (m+(16-0)) bt g) trivial (padd.none128.dh a _ _ _ _) rfl hp
 | succ i=>
  have hlen:m+(16-(i+1))=xs.length:=hl.symm
  have e1:m+(16-(i+1))+1=m+(16-i):=by omega
  have e2:(xs++[jM bt i])++fM bt i=xs0++fM bt 16:=by rw[←he,List.append_assoc];rfl
  refine Runs.room 0 (m+(16-(i+1))+1) (own:=true) (ty:=5) (kd:= .u8) (xs:=xs) (lo:=lo) rfl ?_ ?_
  ·refine Runs.au aj mixed (dK (padd.none128.l2i a xs (m+(16-(i+1))) bt g) i (by omega)) ⟨by omega,hlen,by omega,trivial⟩ (padd.none128.jO a _ _ _ _ _ _) rfl fun g'=>⟨(i,xs++[jM bt i],m+(16-(i+1))+1),g',?_,rfl,⟨by simp only;omega,by simp only[List.length_append,List.length_singleton];omega,e2,.inr e1⟩,by simp only;omega⟩
   simp only;rw[e1]
  ·refine Runs.aP aj mixed _ (dK (padd.none128.l2g a xs (m+(16-(i+1))) lo bt g) i (by omega)) ⟨by omega,hlen,by omega,iO _ (by omega),trivial⟩ (padd.none128.jO a _ _ _ _ _ _) rfl fun g'=>⟨(i,xs++[jM bt i],m+(16-(i+1))+1),g',?_,rfl,⟨by simp only;omega,by simp only[List.length_append,List.length_singleton];omega,e2,.inr e1⟩,by simp only;omega⟩
   simp only;rw[e1]
theorem vS (a:Option Addr) (hy:([]:List Int).length=0) (hs:0≤140737488354000) (lo:Nat) (g:Nat→SV):
  aF Tryd.prog Gs 0 (.seq (.block 0 (.loop padd.L1)) (.seq padd.R5 (.seq (.seq padd.R6 (.block 2 (.loop padd.L2))) padd.D))) (fill g 0 (padd.none128.M1 a (0+1))) (padd.none128.mem ([]++[128]) lo none) (aH tys padd.fn (bJ (.o (.a (.slg 0 (bV [] 128 16).length))) (.new 5 (.gro .u8 (bV [] 128 16) (bV [] 128 16).length none)))):=by
 obtain⟨z1,z2,z3⟩:=uj 0
 have h0:([]:List Int)++[128]++List.replicate 0 0=[]++[128]:=List.append_nil _
 rw[←h0]
 refine Runs.seq (vv a ([]++[128]) 0 (by simp only[List.length_append,List.length_singleton,hy]) hs (fun g lo=> ?_) lo g)
 refine Runs.seq (Runs.au aj mixed (padd.none128.r5 a _ _ lo g) trivial (padd.none128.gG a _ _ _ _ _) rfl fun g=> ?_)
 refine Runs.seq (Runs.seq (Runs.au aj mixed (padd.none128.r6 a _ _ lo _ g) trivial (padd.none128.jO a _ _ _ _ _ _) rfl fun g=> ?_))
 refine vo a ([]++[128]++List.replicate (dM 0 128 16) 0) (0+1+dM 0 128 16) (by simp only[List.length_append,List.length_singleton,List.length_replicate,hy]) (by omega) (lenV 0) (fun g=> ?_) lo g
 have ex:([]++[128]++List.replicate (dM 0 128 16) 0)++fM (lenV 0) 16=bV [] 128 16:=by
  unfold bV
  rw[hy,List.append_assoc,List.append_assoc]
 have el:0+1+dM 0 128 16+(16-0)=(bV [] 128 16).length:=by
  rw[←ex]
  simp only[List.length_append,List.length_singleton,List.length_replicate,jB,hy]
 refine Runs.eB aj mixed (padd.none128.d a _ _ _ g) trivial (aH.ret (padd.none128.res a _ _ _ g) ⟨0,?_,?_⟩)
 ·rw[←el];rfl
 ·rw[←el,←ex]
  exact padd.none128.row a _ _ _ g
theorem wI (a:Option Addr) (hy:([]:List Int).length=0) (hs:0≤140737488354000):
  aF Tryd.prog Gs 0 padd.body (padd.none128.t0 a) (padd.none128.aT) (aH tys padd.fn (bJ (.o (.a (.slg 0 (bV [] 128 16).length))) (.new 5 (.gro .u8 (bV [] 128 16) (bV [] 128 16).length none)))):=by
 rw[padd.ku]
 refine Runs.seq (Runs.au aj mixed (padd.none128.r0 a) trivial (padd.none128.fO a) rfl fun g=> ?_)
 refine Runs.seq (Runs.au aj mixed (padd.none128.r1z a g) ⟨rfl,by decide,trivial⟩ (padd.none128.idsz a) rfl fun g=> ?_)
 refine Runs.seq (Runs.aP aj mixed _ (padd.none128.r2z a g) ⟨by decide,by decide,iO _ (by omega),trivial⟩ (padd.none128.dh a _ _ _ _) rfl fun g=> ?_)
 exact vS a rfl (by omega) 1 g
end
def vk:List aU→Option (SV × dH × Cst)
 | [.win .u8 ys n ty,.val (.o (.a (.v (.int .i64 bk)))),.val (.o (.a (.v (.int .i64 ln))))]=>
  if bk=64∧ln=8 then some (.o (.a (.slg 0 (bV ys 64 8).length)),.new 5 (.gro .u8 (bV ys 64 8) (bV ys 64 8).length none),[n≤140737488354000])
  else if bk=128∧ln=16 then some (.o (.a (.slg 0 (bV ys 128 16).length)),.new 5 (.gro .u8 (bV ys 128 16) (bV ys 128 16).length none),[n≤140737488354000])
  else none
 | [.val (.o (.a (.v (.slice _ 0 0)))),.val (.o (.a (.v (.int .i64 bk)))),.val (.o (.a (.v (.int .i64 ln))))]=>
  if bk=64∧ln=8 then some (.o (.a (.slg 0 (bV [] 64 8).length)),.new 5 (.gro .u8 (bV [] 64 8) (bV [] 64 8).length none),[])
  else if bk=128∧ln=16 then some (.o (.a (.slg 0 (bV [] 128 16).length)),.new 5 (.gro .u8 (bV [] 128 16) (bV [] 128 16).length none),[])
  else none
 | _=>none
def uh (ys:List Int) (bk ln:Nat) (p:Cst):SV × dH × Cst:=(.o (.a (.slg 0 (bV ys bk ln).length)),.new 5 (.gro .u8 (bV ys bk ln) (bV ys bk ln).length none),p)
theorem padd_specE {ps:List aU} {q:SV × dH × Cst} (h:vk ps=some q):
  (∃ys n ty,ps=[.win .u8 ys n ty,.val (.o (.a (.v (.int .i64 64)))),.val (.o (.a (.v (.int .i64 8))))]∧q=uh ys 64 8 [n≤140737488354000])∨
  (∃ys n ty,ps=[.win .u8 ys n ty,.val (.o (.a (.v (.int .i64 128)))),.val (.o (.a (.v (.int .i64 16))))]∧q=uh ys 128 16 [n≤140737488354000])∨
  (∃a,ps=[.val (.o (.a (.v (.slice a 0 0)))),.val (.o (.a (.v (.int .i64 64)))),.val (.o (.a (.v (.int .i64 8))))]∧q=uh [] 64 8 [])∨
  (∃a,ps=[.val (.o (.a (.v (.slice a 0 0)))),.val (.o (.a (.v (.int .i64 128)))),.val (.o (.a (.v (.int .i64 16))))]∧q=uh [] 128 16 []):=by
 unfold vk at h
 split at h
 ·split at h
  ·rename_i hc
   obtain⟨rfl,rfl⟩:=hc
   cases h
   exact .inl ⟨_,_,_,rfl,rfl⟩
  ·split at h<;>cases h
   rename_i hc
   obtain⟨rfl,rfl⟩:=hc
   exact .inr (.inl ⟨_,_,_,rfl,rfl⟩)
 ·split at h
  ·rename_i hc
   obtain⟨rfl,rfl⟩:=hc
   cases h
   exact .inr (.inr (.inl ⟨_,rfl,rfl⟩))
  ·split at h<;>cases h
   rename_i hc
   obtain⟨rfl,rfl⟩:=hc
   exact .inr (.inr (.inr ⟨_,rfl,rfl⟩))
 ·cases h
noncomputable def padd_con:Con Tryd.prog Gs:=Con.parts aj 76 padd.fn Tryd.func76 (by kernel_rfl) (c:=padd.body) (by kernel_rfl) [.win .u8,.val,.val] vk
 (fun ps r e p h hp=>by
  rcases padd_specE h with⟨ys,n,ty,rfl,hq⟩ | ⟨ys,n,ty,rfl,hq⟩ | ⟨a,rfl,hq⟩ | ⟨a,rfl,hq⟩<;>cases hq
  ·exact⟨rfl,fun b hb=>by simp only[bf,aU.blk,List.append_nil,List.mem_singleton] at hb;rw[hb]⟩
  ·exact⟨rfl,fun b hb=>by simp only[bf,aU.blk,List.append_nil,List.mem_singleton] at hb;rw[hb]⟩
  ·exact⟨rfl,fun b hb=>by cases hb⟩
  ·exact⟨rfl,fun b hb=>by cases hb⟩)
 (fun ps r e p cap h hp hi=>by
  rcases padd_specE h with⟨ys,n,ty,rfl,hq⟩ | ⟨ys,n,ty,rfl,hq⟩ | ⟨a,rfl,hq⟩ | ⟨a,rfl,hq⟩<;>cases hq
  ·exact padd_win64_run ys n _ ty hi.1.1 hp.1
  ·exact wR ys n _ ty hi.1.1 hp.1
  ·exact wS a rfl (by omega)
  ·exact wI a rfl (by omega))
def wordR (a b c d:Int):Int:=bits .or .u32 (bits .or .u32 (bits .or .u32 (IntKind.u32.wrap (IntKind.u32.wrap a*2^24)) (IntKind.u32.wrap (IntKind.u32.wrap b*2^16))) (IntKind.u32.wrap (IntKind.u32.wrap c*2^8))) (IntKind.u32.wrap d)
def row8 (h:Nat→Int):List Atom:=u32 (h 0)::u32 (h 1)::u32 (h 2)::u32 (h 3)::u32 (h 4)::u32 (h 5)::u32 (h 6)::u32 (h 7)::[]
def outR (h:Nat→Int):B32:=⟨IntKind.u8.wrap ((h 0).fdiv (2^24)),IntKind.u8.wrap ((h 0).fdiv (2^16)),IntKind.u8.wrap ((h 0).fdiv (2^8)),IntKind.u8.wrap ((h 0).fdiv (2^0)),IntKind.u8.wrap ((h 1).fdiv (2^24)),IntKind.u8.wrap ((h 1).fdiv (2^16)),IntKind.u8.wrap ((h 1).fdiv (2^8)),IntKind.u8.wrap ((h 1).fdiv (2^0)),IntKind.u8.wrap ((h 2).fdiv (2^24)),IntKind.u8.wrap ((h 2).fdiv (2^16)),IntKind.u8.wrap ((h 2).fdiv (2^8)),IntKind.u8.wrap ((h 2).fdiv (2^0)),IntKind.u8.wrap ((h 3).fdiv (2^24)),IntKind.u8.wrap ((h 3).fdiv (2^16)),IntKind.u8.wrap ((h 3).fdiv (2^8)),IntKind.u8.wrap ((h 3).fdiv (2^0)),IntKind.u8.wrap ((h 4).fdiv (2^24)),IntKind.u8.wrap ((h 4).fdiv (2^16)),IntKind.u8.wrap ((h 4).fdiv (2^8)),IntKind.u8.wrap ((h 4).fdiv (2^0)),IntKind.u8.wrap ((h 5).fdiv (2^24)),IntKind.u8.wrap ((h 5).fdiv (2^16)),IntKind.u8.wrap ((h 5).fdiv (2^8)),IntKind.u8.wrap ((h 5).fdiv (2^0)),IntKind.u8.wrap ((h 6).fdiv (2^24)),IntKind.u8.wrap ((h 6).fdiv (2^16)),IntKind.u8.wrap ((h 6).fdiv (2^8)),IntKind.u8.wrap ((h 6).fdiv (2^0)),IntKind.u8.wrap ((h 7).fdiv (2^24)),IntKind.u8.wrap ((h 7).fdiv (2^16)),IntKind.u8.wrap ((h 7).fdiv (2^8)),IntKind.u8.wrap ((h 7).fdiv (2^0))⟩
namespace r256
noncomputable abbrev fn:=Tryd.f56
noncomputable def body:Code:=d9 fn
noncomputable def A0:Code:=cs1 body
noncomputable def A1:Code:=cs1 (cs2 body)
noncomputable def A2:Code:=cs1 (cs2 (cs2 body))
noncomputable def A3:Code:=cs1 (cs2 (cs2 (cs2 body)))
noncomputable def T4:Code:=cs2 (cs2 (cs2 (cs2 body)))
noncomputable def A4:Code:=cs1 (cs1 T4)
noncomputable def LL:Code:=cL (cB (cs2 (cs1 T4)))
noncomputable def DD:Code:=cs2 T4
noncomputable def TT:Code:=cs1 LL
noncomputable def BB:Code:=cB (cs1 (cs2 LL))
noncomputable def A6:Code:=cs2 (cs2 LL)
noncomputable def A7:Code:=cs1 BB
noncomputable def B8:Code:=cs2 BB
noncomputable def A8:Code:=cs1 (cs1 B8)
noncomputable def L2:Code:=cL (cB (cs2 (cs1 B8)))
noncomputable def B13:Code:=cs2 B8
noncomputable def A13:Code:=cs1 (cs1 B13)
noncomputable def L3:Code:=cL (cB (cs2 (cs1 B13)))
noncomputable def B19:Code:=cs2 B13
noncomputable def A19:Code:=cs1 B19
noncomputable def B20:Code:=cs2 B19
noncomputable def A20:Code:=cs1 (cs1 B20)
noncomputable def L4:Code:=cL (cB (cs2 (cs1 B20)))
noncomputable def B28:Code:=cs2 B20
noncomputable def A28:Code:=cs1 B28
noncomputable def L5:Code:=cL (cB (cs2 B28))
theorem ku:body= .seq A0 (.seq A1 (.seq A2 (.seq A3 (.seq (.seq A4 (.block 0 (.loop LL))) DD)))):=by kernel_rfl
theorem LL_eq:LL= .seq TT (.seq (.block 1 (.seq A7 (.seq (.seq A8 (.block 2 (.loop L2))) (.seq (.seq A13 (.block 4 (.loop L3))) (.seq A19 (.seq (.seq A20 (.block 6 (.loop L4))) (.seq A28 (.block 8 (.loop L5))))))))) A6):=by kernel_rfl
noncomputable def Γ:Cons Tryd.prog Gs:=[rk256_con,padd_con,rrot32_con]
def h0 (j:Nat):Int:=h0L.at j
namespace win
section
variable (len at_:Nat)
def MH:List (Option SV):=aD 245 0 [(2,.o (.a (.ptr 1 0))),(3,.o (.a (.ptr 2 0))),(4,.o (.a (.ptr 3 0))),(5,.o (.a (.slg 4 len))),(6,(aQ .i64).enc ((at_:Nat):Int))]
def M7:List (Option SV):=aD 245 0 [(2,.o (.a (.ptr 1 0))),(3,.o (.a (.ptr 2 0))),(4,.o (.a (.ptr 3 0))),(5,.o (.a (.slg 4 len))),(6,(aQ .i64).enc ((at_:Nat):Int)),(7,.o (.a (.ptr 5 0)))]
def M2 (t:Nat):List (Option SV):=aD 245 0 [(2,.o (.a (.ptr 1 0))),(3,.o (.a (.ptr 2 0))),(4,.o (.a (.ptr 3 0))),(5,.o (.a (.slg 4 len))),(6,(aQ .i64).enc ((at_:Nat):Int)),(7,.o (.a (.ptr 5 0))),(31,(aQ .i64).enc ((t:Nat):Int))]
def M3 (t:Nat):List (Option SV):=aD 245 0 [(2,.o (.a (.ptr 1 0))),(3,.o (.a (.ptr 2 0))),(4,.o (.a (.ptr 3 0))),(5,.o (.a (.slg 4 len))),(6,(aQ .i64).enc ((at_:Nat):Int)),(7,.o (.a (.ptr 5 0))),(9,(aQ .i64).enc ((t:Nat):Int))]
def M19:List (Option SV):=aD 245 0 [(2,.o (.a (.ptr 1 0))),(3,.o (.a (.ptr 2 0))),(4,.o (.a (.ptr 3 0))),(5,.o (.a (.slg 4 len))),(6,(aQ .i64).enc ((at_:Nat):Int)),(7,.o (.a (.ptr 5 0))),(12,.o (.a (.ptr 6 0)))]
def M4 (t:Nat):List (Option SV):=aD 245 0 [(2,.o (.a (.ptr 1 0))),(3,.o (.a (.ptr 2 0))),(4,.o (.a (.ptr 3 0))),(5,.o (.a (.slg 4 len))),(6,(aQ .i64).enc ((at_:Nat):Int)),(7,.o (.a (.ptr 5 0))),(12,.o (.a (.ptr 6 0))),(132,(aQ .i64).enc ((t:Nat):Int))]
def M5 (t:Nat):List (Option SV):=aD 245 0 [(2,.o (.a (.ptr 1 0))),(3,.o (.a (.ptr 2 0))),(4,.o (.a (.ptr 3 0))),(5,.o (.a (.slg 4 len))),(6,(aQ .i64).enc ((at_:Nat):Int)),(12,.o (.a (.ptr 6 0))),(214,(aQ .i64).enc ((t:Nat):Int))]
end
section
variable (ys:List Int) (ty:TypeId)
def eO (xs:List Int) (lo:Nat) (h:Nat→Int):List Blk:=[⟨false,ty,.pre .u8 ys⟩,⟨true,24,.lit (zeroB.to.map (aG .u8))⟩,⟨true,90,.lit (row8 h)⟩,⟨true,91,.lit (jI.map (aG .u32))⟩,⟨true,5,.gro .u8 xs lo none⟩]
def eP (xs:List Int) (lo:Nat) (h x:Nat→Int):List Blk:=eO ys ty xs lo h++[⟨true,91,.lit (rowX x)⟩]
def fF (xs:List Int) (lo:Nat) (h x s:Nat→Int):List Blk:=eO ys ty xs lo h++[⟨true,91,.lit (rowX x)⟩,⟨true,90,.lit (row8 s)⟩]
theorem idsH (len at_ lo:Nat) (xs:List Int) (h:Nat→Int):oI (MH len at_) (eO ys ty xs lo h):=by delta oI;kernel_rfl
theorem ids7 (len at_ lo:Nat) (xs:List Int) (h:Nat→Int) (x:Nat→Int):oI (M7 len at_) (eP ys ty xs lo h x):=by delta oI;kernel_rfl
theorem gG (len at_ lo:Nat) (xs:List Int) (h:Nat→Int) (x:Nat→Int) (t:Nat):oI (M2 len at_ t) (eP ys ty xs lo h x):=by delta oI;kernel_rfl
theorem jO (len at_ lo:Nat) (xs:List Int) (h:Nat→Int) (x:Nat→Int) (t:Nat):oI (M3 len at_ t) (eP ys ty xs lo h x):=by delta oI;kernel_rfl
theorem ids19 (len at_ lo:Nat) (xs:List Int) (h:Nat→Int) (x:Nat→Int) (s:Nat→Int):oI (M19 len at_) (fF ys ty xs lo h x s):=by delta oI;kernel_rfl
theorem ids4 (len at_ lo:Nat) (xs:List Int) (h:Nat→Int) (x:Nat→Int) (s:Nat→Int) (t:Nat):oI (M4 len at_ t) (fF ys ty xs lo h x s):=by delta oI;kernel_rfl
theorem ids5 (len at_ lo:Nat) (xs:List Int) (h:Nat→Int) (x:Nat→Int) (s:Nat→Int) (t:Nat):oI (M5 len at_ t) (fF ys ty xs lo h x s):=by delta oI;kernel_rfl
end
noncomputable def t0 (n c:Nat):List SV:=aK fn [.o (.a (.sld 0 0 0 n c))]
def N0 (n c:Nat):List (Option SV):=aD 245 0 [(0,.o (.a (.sld 0 0 0 n c))),(2,.o (.a (.ptr 1 0)))]
def N1 (n c:Nat):List (Option SV):=aD 245 0 [(0,.o (.a (.sld 0 0 0 n c))),(2,.o (.a (.ptr 1 0))),(3,.o (.a (.ptr 2 0)))]
def N2 (n c:Nat):List (Option SV):=aD 245 0 [(0,.o (.a (.sld 0 0 0 n c))),(2,.o (.a (.ptr 1 0))),(3,.o (.a (.ptr 2 0))),(4,.o (.a (.ptr 3 0)))]
def N3 (len:Nat):List (Option SV):=aD 245 0 [(2,.o (.a (.ptr 1 0))),(3,.o (.a (.ptr 2 0))),(4,.o (.a (.ptr 3 0))),(5,.o (.a (.slg 4 len)))]
section
variable (ys:List Int) (ty:TypeId)
def mm:List Blk:=[⟨false,ty,.pre .u8 ys⟩]
def m0:List Blk:=mm ys ty++[⟨true,24,.lit (zeroB.to.map (aG .u8))⟩]
def m1:List Blk:=m0 ys ty++[⟨true,90,.lit (row8 h0)⟩]
def m2:List Blk:=m1 ys ty++[⟨true,91,.lit (jI.map (aG .u32))⟩]
theorem idsN0 (n c:Nat):oI (N0 n c) (m0 ys ty):=by delta oI;kernel_rfl
theorem idsN1 (n c:Nat):oI (N1 n c) (m1 ys ty):=by delta oI;kernel_rfl
theorem idsN2 (n c:Nat):oI (N2 n c) (m2 ys ty):=by delta oI;kernel_rfl
theorem idsN3 (len lo:Nat) (xs:List Int):oI (N3 len) (eO ys ty xs lo h0):=by delta oI;kernel_rfl
theorem a0 (n c:Nat):oX Γ 100 A0 (t0 n c) (mm ys ty) [] .normal (N0 n c) (m0 ys ty) []:=by delta oX;kernel_rfl
theorem a1 (n c:Nat) (g:Nat→SV):oX Γ 100 A1 (fill g 0 (N0 n c)) (m0 ys ty) [] .normal (N1 n c) (m1 ys ty) []:=by delta oX;kernel_rfl
theorem a2 (n c:Nat) (g:Nat→SV):oX Γ 100 A2 (fill g 0 (N1 n c)) (m1 ys ty) [] .normal (N2 n c) (m2 ys ty) []:=by delta oX;kernel_rfl
theorem a3 (n c:Nat) (g:Nat→SV):oX Γ 100 A3 (fill g 0 (N2 n c)) (m2 ys ty) [] .normal (N3 (bV ((ys.drop 0).take n) 64 8).length) (eO ys ty (bV ((ys.drop 0).take n) 64 8) (bV ((ys.drop 0).take n) 64 8).length h0) [0+n≤ys.length,n≤c,n≤140737488354000]:=by delta oX;kernel_rfl
theorem a4 (len lo:Nat) (xs:List Int) (g:Nat→SV):oX Γ 100 A4 (fill g 0 (N3 len)) (eO ys ty xs lo h0) [] .normal (MH len 0) (eO ys ty xs lo h0) []:=by delta oX;kernel_rfl
theorem go (len at_ lo:Nat) (xs:List Int) (h:Nat→Int) (g:Nat→SV):oX Γ 100 TT (fill g 0 (MH len at_)) (eO ys ty xs lo h) [(28,[.b true])] .normal (MH len at_) (eO ys ty xs lo h) [decide ((at_:Int)<(len:Int))=true]:=by delta oX;kernel_rfl
theorem stop (len at_ lo:Nat) (xs:List Int) (h:Nat→Int) (g:Nat→SV):oX Γ 100 TT (fill g 0 (MH len at_)) (eO ys ty xs lo h) [(28,[.b false])] (.exit 0) (MH len at_) (eO ys ty xs lo h) [decide ((at_:Int)<(len:Int))=false]:=by delta oX;kernel_rfl
theorem p7 (len at_ lo:Nat) (xs:List Int) (h:Nat→Int) (g:Nat→SV):oX Γ 100 A7 (fill g 0 (MH len at_)) (eO ys ty xs lo h) [] .normal (M7 len at_) (eP ys ty xs lo h sblk.zero64) []:=by delta oX;kernel_rfl
theorem p8 (len at_ lo:Nat) (xs:List Int) (h:Nat→Int) (x:Nat→Int) (g:Nat→SV):oX Γ 100 A8 (fill g 0 (M7 len at_)) (eP ys ty xs lo h x) [] .normal (M2 len at_ 0) (eP ys ty xs lo h x) []:=by delta oX;kernel_rfl
theorem step2 (len at_ lo:Nat) (xs:List Int) (h:Nat→Int) (x:Nat→Int) (t:Nat) (a b c d v:Int) (g:Nat→SV):oX Γ 100 L2 (fill g 0 (M2 len at_ t)) (eP ys ty xs lo h x) [(32,[.b true]),(38,[.n ((4*t:Nat):Int)]),(39,[.n ((at_+4*t:Nat):Int)]),(41,[.n a]),(47,[.n ((4*t:Nat):Int)]),(48,[.n ((at_+4*t:Nat):Int)]),(49,[.n ((at_+4*t+1:Nat):Int)]),(51,[.n b]),(58,[.n ((4*t:Nat):Int)]),(59,[.n ((at_+4*t:Nat):Int)]),(60,[.n ((at_+4*t+2:Nat):Int)]),(62,[.n c]),(69,[.n ((4*t:Nat):Int)]),(70,[.n ((at_+4*t:Nat):Int)]),(71,[.n ((at_+4*t+3:Nat):Int)]),(73,[.n d]),(75,[.n v]),(76,[.dyn]),(77,[.n ((t+1:Nat):Int)])] .normal (M2 len at_ (t+1)) (eP ys ty xs lo h (putF (0+t) [v] x)) [decide ((t:Int)<16)=true,IntKind.i64.wrap (4*(t:Int))=((4*t:Nat):Int),IntKind.i64.wrap ((at_:Int)+((4*t:Nat):Int))=((at_+4*t:Nat):Int),0≤((at_+4*t:Nat):Int),((at_+4*t:Nat):Int)<(len:Int),0+(at_+4*t)<xs.length,xs.getD (0+(at_+4*t)) 0=a,IntKind.i64.wrap (4*(t:Int))=((4*t:Nat):Int),IntKind.i64.wrap ((at_:Int)+((4*t:Nat):Int))=((at_+4*t:Nat):Int),IntKind.i64.wrap (((at_+4*t:Nat):Int)+1)=((at_+4*t+1:Nat):Int),0≤((at_+4*t+1:Nat):Int),((at_+4*t+1:Nat):Int)<(len:Int),0+(at_+4*t+1)<xs.length,xs.getD (0+(at_+4*t+1)) 0=b,IntKind.i64.wrap (4*(t:Int))=((4*t:Nat):Int),IntKind.i64.wrap ((at_:Int)+((4*t:Nat):Int))=((at_+4*t:Nat):Int),IntKind.i64.wrap (((at_+4*t:Nat):Int)+2)=((at_+4*t+2:Nat):Int),0≤((at_+4*t+2:Nat):Int),((at_+4*t+2:Nat):Int)<(len:Int),0+(at_+4*t+2)<xs.length,xs.getD (0+(at_+4*t+2)) 0=c,IntKind.i64.wrap (4*(t:Int))=((4*t:Nat):Int),IntKind.i64.wrap ((at_:Int)+((4*t:Nat):Int))=((at_+4*t:Nat):Int),IntKind.i64.wrap (((at_+4*t:Nat):Int)+3)=((at_+4*t+3:Nat):Int),0≤((at_+4*t+3:Nat):Int),((at_+4*t+3:Nat):Int)<(len:Int),0+(at_+4*t+3)<xs.length,xs.getD (0+(at_+4*t+3)) 0=d,wordR a b c d=v,0≤(t:Int),(t:Int)<((64:Nat):Int),0+t+1≤(bR x 0 64).length,IntKind.i64.wrap ((t:Int)+1)=((t+1:Nat):Int)]:=by delta oX;kernel_rfl
theorem end2 (len at_ lo:Nat) (xs:List Int) (h:Nat→Int) (x:Nat→Int) (t:Nat) (g:Nat→SV):oX Γ 100 L2 (fill g 0 (M2 len at_ t)) (eP ys ty xs lo h x) [(32,[.b false])] (.exit 2) (M7 len at_) (eP ys ty xs lo h x) [decide ((t:Int)<16)=false]:=by delta oX;kernel_rfl
theorem p13 (len at_ lo:Nat) (xs:List Int) (h:Nat→Int) (x:Nat→Int) (g:Nat→SV):oX Γ 100 A13 (fill g 0 (M7 len at_)) (eP ys ty xs lo h x) [] .normal (M3 len at_ 16) (eP ys ty xs lo h x) []:=by delta oX;kernel_rfl
theorem step3 (len at_ lo:Nat) (xs:List Int) (h:Nat→Int) (x:Nat→Int) (t:Nat) (a b c d v:Int) (g:Nat→SV):oX Γ 100 L3 (fill g 0 (M3 len at_ (t+16))) (eP ys ty xs lo h x) [(79,[.b true]),(83,[.n ((t+14:Nat):Int)]),(84,[.dyn]),(85,[.n a]),(88,[.n ((t+14:Nat):Int)]),(89,[.dyn]),(90,[.n a]),(94,[.n ((t+14:Nat):Int)]),(95,[.dyn]),(96,[.n a]),(100,[.n ((t+1:Nat):Int)]),(101,[.dyn]),(102,[.n b]),(105,[.n ((t+1:Nat):Int)]),(106,[.dyn]),(107,[.n b]),(111,[.n ((t+1:Nat):Int)]),(112,[.dyn]),(113,[.n b]),(119,[.n ((t+9:Nat):Int)]),(120,[.dyn]),(121,[.n c]),(126,[.n ((t:Nat):Int)]),(127,[.dyn]),(128,[.n d]),(129,[.n v]),(130,[.dyn]),(81,[.n ((t+17:Nat):Int)])] .normal (M3 len at_ (t+17)) (eP ys ty xs lo h (putF (0+(t+16)) [v] x)) [decide (((t+16:Nat):Int)<64)=true,IntKind.i64.wrap (((t+16:Nat):Int)-2)=((t+14:Nat):Int),0≤((t+14:Nat):Int),((t+14:Nat):Int)<((64:Nat):Int),0+(t+14)<(bR x 0 64).length,(bR x 0 64).getD (0+(t+14)) 0=a,IntKind.i64.wrap (((t+16:Nat):Int)-2)=((t+14:Nat):Int),0≤((t+14:Nat):Int),((t+14:Nat):Int)<((64:Nat):Int),0+(t+14)<(bR x 0 64).length,(bR x 0 64).getD (0+(t+14)) 0=a,IntKind.i64.wrap (((t+16:Nat):Int)-2)=((t+14:Nat):Int),0≤((t+14:Nat):Int),((t+14:Nat):Int)<((64:Nat):Int),0+(t+14)<(bR x 0 64).length,(bR x 0 64).getD (0+(t+14)) 0=a,IntKind.i64.wrap (((t+16:Nat):Int)-15)=((t+1:Nat):Int),0≤((t+1:Nat):Int),((t+1:Nat):Int)<((64:Nat):Int),0+(t+1)<(bR x 0 64).length,(bR x 0 64).getD (0+(t+1)) 0=b,IntKind.i64.wrap (((t+16:Nat):Int)-15)=((t+1:Nat):Int),0≤((t+1:Nat):Int),((t+1:Nat):Int)<((64:Nat):Int),0+(t+1)<(bR x 0 64).length,(bR x 0 64).getD (0+(t+1)) 0=b,IntKind.i64.wrap (((t+16:Nat):Int)-15)=((t+1:Nat):Int),0≤((t+1:Nat):Int),((t+1:Nat):Int)<((64:Nat):Int),0+(t+1)<(bR x 0 64).length,(bR x 0 64).getD (0+(t+1)) 0=b,IntKind.i64.wrap (((t+16:Nat):Int)-7)=((t+9:Nat):Int),0≤((t+9:Nat):Int),((t+9:Nat):Int)<((64:Nat):Int),0+(t+9)<(bR x 0 64).length,(bR x 0 64).getD (0+(t+9)) 0=c,IntKind.i64.wrap (((t+16:Nat):Int)-16)=((t:Nat):Int),0≤((t:Nat):Int),((t:Nat):Int)<((64:Nat):Int),0+(t)<(bR x 0 64).length,(bR x 0 64).getD (0+(t)) 0=d,qc a b c d=v,0≤((t+16:Nat):Int),((t+16:Nat):Int)<((64:Nat):Int),0+(t+16)+1≤(bR x 0 64).length,IntKind.i64.wrap (((t+16:Nat):Int)+1)=((t+17:Nat):Int)]:=by delta oX;kernel_rfl
theorem end3 (len at_ lo:Nat) (xs:List Int) (h:Nat→Int) (x:Nat→Int) (t:Nat) (g:Nat→SV):oX Γ 100 L3 (fill g 0 (M3 len at_ t)) (eP ys ty xs lo h x) [(79,[.b false])] (.exit 4) (M7 len at_) (eP ys ty xs lo h x) [decide ((t:Int)<64)=false]:=by delta oX;kernel_rfl
theorem p19 (len at_ lo:Nat) (xs:List Int) (h:Nat→Int) (x:Nat→Int) (g:Nat→SV):oX Γ 100 A19 (fill g 0 (M7 len at_)) (eP ys ty xs lo h x) [] .normal (M19 len at_) (fF ys ty xs lo h x h) []:=by delta oX;kernel_rfl
theorem p20 (len at_ lo:Nat) (xs:List Int) (h:Nat→Int) (x:Nat→Int) (s:Nat→Int) (g:Nat→SV):oX Γ 100 A20 (fill g 0 (M19 len at_)) (fF ys ty xs lo h x s) [] .normal (M4 len at_ 0) (fF ys ty xs lo h x s) []:=by delta oX;kernel_rfl
theorem step4 (len at_ lo:Nat) (xs:List Int) (h:Nat→Int) (x:Nat→Int) (s:Nat→Int) (t:Nat) (k w:Int) (g:Nat→SV):oX Γ 100 L4 (fill g 0 (M4 len at_ t)) (fF ys ty xs lo h x s) [(133,[.b true]),(162,[.dyn]),(163,[.n k]),(166,[.dyn]),(167,[.n w]),(213,[.n ((t+1:Nat):Int)])] .normal (M4 len at_ (t+1)) (fF ys ty xs lo h x (qd s k w)) [decide ((t:Int)<64)=true,0≤(t:Int),(t:Int)<((64:Nat):Int),0+t<jI.length,jI.getD (0+t) 0=k,0≤((t:Nat):Int),((t:Nat):Int)<((64:Nat):Int),0+(t)<(bR x 0 64).length,(bR x 0 64).getD (0+(t)) 0=w,IntKind.i64.wrap ((t:Int)+1)=((t+1:Nat):Int)]:=by delta oX;kernel_rfl
theorem end4 (len at_ lo:Nat) (xs:List Int) (h:Nat→Int) (x:Nat→Int) (s:Nat→Int) (t:Nat) (g:Nat→SV):oX Γ 100 L4 (fill g 0 (M4 len at_ t)) (fF ys ty xs lo h x s) [(133,[.b false])] (.exit 6) (M19 len at_) (fF ys ty xs lo h x s) [decide ((t:Int)<64)=false]:=by delta oX;kernel_rfl
theorem p28 (len at_ lo:Nat) (xs:List Int) (h:Nat→Int) (x:Nat→Int) (s:Nat→Int) (g:Nat→SV):oX Γ 100 A28 (fill g 0 (M19 len at_)) (fF ys ty xs lo h x s) [] .normal (M5 len at_ 0) (fF ys ty xs lo (sblk.jK h s 0) x s) []:=by delta oX;kernel_rfl
theorem tab5 (len at_ lo:Nat) (xs:List Int) (h:Nat→Int) (x:Nat→Int) (s:Nat→Int) (g:Nat→SV):fV (fun t=>jq (fF ys ty xs lo (sblk.jK h s (t+1)) x s).length (M5 len at_ (t+1)) (exec Γ tys 100 L5 ⟨fill g 0 (M5 len at_ t),fF ys ty xs lo (sblk.jK h s t) x s,[]⟩)) 8=fU (fun t=>some (.normal,live (M5 len at_ (t+1)),(M5 len at_ (t+1)).length,fF ys ty xs lo (sblk.jK h s (t+1)) x s,[])) 8:=by kernel_rfl
theorem end5 (len at_ lo:Nat) (xs:List Int) (h:Nat→Int) (x:Nat→Int) (s:Nat→Int) (g:Nat→SV):oX Γ 100 L5 (fill g 0 (M5 len at_ 8)) (fF ys ty xs lo (sblk.jK h s 8) x s) [] (.exit 8) (MH len at_) (eO ys ty xs lo (fun i=>kJ (h i) (s i))) []:=by delta oX;kernel_rfl
theorem p6 (len at_ lo:Nat) (xs:List Int) (h:Nat→Int) (g:Nat→SV):oX Γ 100 A6 (fill g 0 (MH len at_)) (eO ys ty xs lo h) [(30,[.n ((at_+64:Nat):Int)])] .normal (MH len (at_+64)) (eO ys ty xs lo h) [IntKind.i64.wrap ((at_:Int)+64)=((at_+64:Nat):Int)]:=by delta oX;kernel_rfl
noncomputable def fin (len at_ lo:Nat) (xs:List Int) (h:Nat→Int) (g:Nat→SV):St:=outS Γ tys 100 DD ⟨fill g 0 (MH len at_),eO ys ty xs lo h,[]⟩
theorem d (len at_ lo:Nat) (xs:List Int) (h:Nat→Int) (g:Nat→SV):exec Γ tys 100 DD ⟨fill g 0 (MH len at_),eO ys ty xs lo h,[]⟩=some (.ret,⟨(fin ys ty len at_ lo xs h g).tm,(fin ys ty len at_ lo xs h g).mem,[]⟩,[]):=by kernel_rfl
theorem res (len at_ lo:Nat) (xs:List Int) (h:Nat→Int) (g:Nat→SV):eRes tys (fin ys ty len at_ lo xs h g).tm (fun k=>(fin ys ty len at_ lo xs h g).mem[k]?) fn.results.toList=some [.g ((outR h).to.map (aG .u8))]:=by kernel_rfl
end
end win
namespace none
section
variable (len at_:Nat)
def MH:List (Option SV):=aD 245 0 [(2,.o (.a (.ptr 0 0))),(3,.o (.a (.ptr 1 0))),(4,.o (.a (.ptr 2 0))),(5,.o (.a (.slg 3 len))),(6,(aQ .i64).enc ((at_:Nat):Int))]
def M7:List (Option SV):=aD 245 0 [(2,.o (.a (.ptr 0 0))),(3,.o (.a (.ptr 1 0))),(4,.o (.a (.ptr 2 0))),(5,.o (.a (.slg 3 len))),(6,(aQ .i64).enc ((at_:Nat):Int)),(7,.o (.a (.ptr 4 0)))]
def M2 (t:Nat):List (Option SV):=aD 245 0 [(2,.o (.a (.ptr 0 0))),(3,.o (.a (.ptr 1 0))),(4,.o (.a (.ptr 2 0))),(5,.o (.a (.slg 3 len))),(6,(aQ .i64).enc ((at_:Nat):Int)),(7,.o (.a (.ptr 4 0))),(31,(aQ .i64).enc ((t:Nat):Int))]
def M3 (t:Nat):List (Option SV):=aD 245 0 [(2,.o (.a (.ptr 0 0))),(3,.o (.a (.ptr 1 0))),(4,.o (.a (.ptr 2 0))),(5,.o (.a (.slg 3 len))),(6,(aQ .i64).enc ((at_:Nat):Int)),(7,.o (.a (.ptr 4 0))),(9,(aQ .i64).enc ((t:Nat):Int))]
def M19:List (Option SV):=aD 245 0 [(2,.o (.a (.ptr 0 0))),(3,.o (.a (.ptr 1 0))),(4,.o (.a (.ptr 2 0))),(5,.o (.a (.slg 3 len))),(6,(aQ .i64).enc ((at_:Nat):Int)),(7,.o (.a (.ptr 4 0))),(12,.o (.a (.ptr 5 0)))]
def M4 (t:Nat):List (Option SV):=aD 245 0 [(2,.o (.a (.ptr 0 0))),(3,.o (.a (.ptr 1 0))),(4,.o (.a (.ptr 2 0))),(5,.o (.a (.slg 3 len))),(6,(aQ .i64).enc ((at_:Nat):Int)),(7,.o (.a (.ptr 4 0))),(12,.o (.a (.ptr 5 0))),(132,(aQ .i64).enc ((t:Nat):Int))]
def M5 (t:Nat):List (Option SV):=aD 245 0 [(2,.o (.a (.ptr 0 0))),(3,.o (.a (.ptr 1 0))),(4,.o (.a (.ptr 2 0))),(5,.o (.a (.slg 3 len))),(6,(aQ .i64).enc ((at_:Nat):Int)),(12,.o (.a (.ptr 5 0))),(214,(aQ .i64).enc ((t:Nat):Int))]
end
def eO (xs:List Int) (lo:Nat) (h:Nat→Int):List Blk:=[⟨true,24,.lit (zeroB.to.map (aG .u8))⟩,⟨true,90,.lit (row8 h)⟩,⟨true,91,.lit (jI.map (aG .u32))⟩,⟨true,5,.gro .u8 xs lo none⟩]
def eP (xs:List Int) (lo:Nat) (h x:Nat→Int):List Blk:=eO xs lo h++[⟨true,91,.lit (rowX x)⟩]
def fF (xs:List Int) (lo:Nat) (h x s:Nat→Int):List Blk:=eO xs lo h++[⟨true,91,.lit (rowX x)⟩,⟨true,90,.lit (row8 s)⟩]
section
variable (len at_ lo:Nat) (xs:List Int) (h:Nat→Int)
theorem idsH:oI (MH len at_) (eO xs lo h):=by delta oI;kernel_rfl
theorem ids7 (x:Nat→Int):oI (M7 len at_) (eP xs lo h x):=by delta oI;kernel_rfl
theorem gG (x:Nat→Int) (t:Nat):oI (M2 len at_ t) (eP xs lo h x):=by delta oI;kernel_rfl
theorem jO (x:Nat→Int) (t:Nat):oI (M3 len at_ t) (eP xs lo h x):=by delta oI;kernel_rfl
theorem ids19 (x:Nat→Int) (s:Nat→Int):oI (M19 len at_) (fF xs lo h x s):=by delta oI;kernel_rfl
theorem ids4 (x:Nat→Int) (s:Nat→Int) (t:Nat):oI (M4 len at_ t) (fF xs lo h x s):=by delta oI;kernel_rfl
theorem ids5 (x:Nat→Int) (s:Nat→Int) (t:Nat):oI (M5 len at_ t) (fF xs lo h x s):=by delta oI;kernel_rfl
end
noncomputable def t0 (a:Option Addr):List SV:=aK fn [.o (.a (.v (.slice a 0 0)))]
def N0 (a:Option Addr):List (Option SV):=aD 245 0 [(0,.o (.a (.v (.slice a 0 0)))),(2,.o (.a (.ptr 0 0)))]
def N1 (a:Option Addr):List (Option SV):=aD 245 0 [(0,.o (.a (.v (.slice a 0 0)))),(2,.o (.a (.ptr 0 0))),(3,.o (.a (.ptr 1 0)))]
def N2 (a:Option Addr):List (Option SV):=aD 245 0 [(0,.o (.a (.v (.slice a 0 0)))),(2,.o (.a (.ptr 0 0))),(3,.o (.a (.ptr 1 0))),(4,.o (.a (.ptr 2 0)))]
def N3 (len:Nat):List (Option SV):=aD 245 0 [(2,.o (.a (.ptr 0 0))),(3,.o (.a (.ptr 1 0))),(4,.o (.a (.ptr 2 0))),(5,.o (.a (.slg 3 len)))]
def mm:List Blk:=[]
def m0:List Blk:=mm++[⟨true,24,.lit (zeroB.to.map (aG .u8))⟩]
def m1:List Blk:=m0++[⟨true,90,.lit (row8 h0)⟩]
def m2:List Blk:=m1++[⟨true,91,.lit (jI.map (aG .u32))⟩]
theorem idsN0 (a:Option Addr):oI (N0 a) m0:=by delta oI;kernel_rfl
theorem idsN1 (a:Option Addr):oI (N1 a) m1:=by delta oI;kernel_rfl
theorem idsN2 (a:Option Addr):oI (N2 a) m2:=by delta oI;kernel_rfl
theorem idsN3 (len lo:Nat) (xs:List Int):oI (N3 len) (eO xs lo h0):=by delta oI;kernel_rfl
theorem a0 (a:Option Addr):oX Γ 100 A0 (t0 a) mm [] .normal (N0 a) m0 []:=by delta oX;kernel_rfl
theorem a1 (a:Option Addr) (g:Nat→SV):oX Γ 100 A1 (fill g 0 (N0 a)) m0 [] .normal (N1 a) m1 []:=by delta oX;kernel_rfl
theorem a2 (a:Option Addr) (g:Nat→SV):oX Γ 100 A2 (fill g 0 (N1 a)) m1 [] .normal (N2 a) m2 []:=by delta oX;kernel_rfl
theorem a3 (a:Option Addr) (g:Nat→SV):oX Γ 100 A3 (fill g 0 (N2 a)) m2 [] .normal (N3 (bV [] 64 8).length) (eO (bV [] 64 8) (bV [] 64 8).length h0) []:=by delta oX;kernel_rfl
theorem a4 (len lo:Nat) (xs:List Int) (g:Nat→SV):oX Γ 100 A4 (fill g 0 (N3 len)) (eO xs lo h0) [] .normal (MH len 0) (eO xs lo h0) []:=by delta oX;kernel_rfl
section
variable (len at_ lo:Nat) (xs:List Int) (h:Nat→Int)
theorem go (g:Nat→SV):oX Γ 100 TT (fill g 0 (MH len at_)) (eO xs lo h) [(28,[.b true])] .normal (MH len at_) (eO xs lo h) [decide ((at_:Int)<(len:Int))=true]:=by delta oX;kernel_rfl
theorem stop (g:Nat→SV):oX Γ 100 TT (fill g 0 (MH len at_)) (eO xs lo h) [(28,[.b false])] (.exit 0) (MH len at_) (eO xs lo h) [decide ((at_:Int)<(len:Int))=false]:=by delta oX;kernel_rfl
theorem p7 (g:Nat→SV):oX Γ 100 A7 (fill g 0 (MH len at_)) (eO xs lo h) [] .normal (M7 len at_) (eP xs lo h sblk.zero64) []:=by delta oX;kernel_rfl
theorem p8 (x:Nat→Int) (g:Nat→SV):oX Γ 100 A8 (fill g 0 (M7 len at_)) (eP xs lo h x) [] .normal (M2 len at_ 0) (eP xs lo h x) []:=by delta oX;kernel_rfl
theorem step2 (x:Nat→Int) (t:Nat) (a b c d v:Int) (g:Nat→SV):oX Γ 100 L2 (fill g 0 (M2 len at_ t)) (eP xs lo h x) [(32,[.b true]),(38,[.n ((4*t:Nat):Int)]),(39,[.n ((at_+4*t:Nat):Int)]),(41,[.n a]),(47,[.n ((4*t:Nat):Int)]),(48,[.n ((at_+4*t:Nat):Int)]),(49,[.n ((at_+4*t+1:Nat):Int)]),(51,[.n b]),(58,[.n ((4*t:Nat):Int)]),(59,[.n ((at_+4*t:Nat):Int)]),(60,[.n ((at_+4*t+2:Nat):Int)]),(62,[.n c]),(69,[.n ((4*t:Nat):Int)]),(70,[.n ((at_+4*t:Nat):Int)]),(71,[.n ((at_+4*t+3:Nat):Int)]),(73,[.n d]),(75,[.n v]),(76,[.dyn]),(77,[.n ((t+1:Nat):Int)])] .normal (M2 len at_ (t+1)) (eP xs lo h (putF (0+t) [v] x)) [decide ((t:Int)<16)=true,IntKind.i64.wrap (4*(t:Int))=((4*t:Nat):Int),IntKind.i64.wrap ((at_:Int)+((4*t:Nat):Int))=((at_+4*t:Nat):Int),0≤((at_+4*t:Nat):Int),((at_+4*t:Nat):Int)<(len:Int),0+(at_+4*t)<xs.length,xs.getD (0+(at_+4*t)) 0=a,IntKind.i64.wrap (4*(t:Int))=((4*t:Nat):Int),IntKind.i64.wrap ((at_:Int)+((4*t:Nat):Int))=((at_+4*t:Nat):Int),IntKind.i64.wrap (((at_+4*t:Nat):Int)+1)=((at_+4*t+1:Nat):Int),0≤((at_+4*t+1:Nat):Int),((at_+4*t+1:Nat):Int)<(len:Int),0+(at_+4*t+1)<xs.length,xs.getD (0+(at_+4*t+1)) 0=b,IntKind.i64.wrap (4*(t:Int))=((4*t:Nat):Int),IntKind.i64.wrap ((at_:Int)+((4*t:Nat):Int))=((at_+4*t:Nat):Int),IntKind.i64.wrap (((at_+4*t:Nat):Int)+2)=((at_+4*t+2:Nat):Int),0≤((at_+4*t+2:Nat):Int),((at_+4*t+2:Nat):Int)<(len:Int),0+(at_+4*t+2)<xs.length,xs.getD (0+(at_+4*t+2)) 0=c,IntKind.i64.wrap (4*(t:Int))=((4*t:Nat):Int),IntKind.i64.wrap ((at_:Int)+((4*t:Nat):Int))=((at_+4*t:Nat):Int),IntKind.i64.wrap (((at_+4*t:Nat):Int)+3)=((at_+4*t+3:Nat):Int),0≤((at_+4*t+3:Nat):Int),((at_+4*t+3:Nat):Int)<(len:Int),0+(at_+4*t+3)<xs.length,xs.getD (0+(at_+4*t+3)) 0=d,wordR a b c d=v,0≤(t:Int),(t:Int)<((64:Nat):Int),0+t+1≤(bR x 0 64).length,IntKind.i64.wrap ((t:Int)+1)=((t+1:Nat):Int)]:=by delta oX;kernel_rfl
theorem end2 (x:Nat→Int) (t:Nat) (g:Nat→SV):oX Γ 100 L2 (fill g 0 (M2 len at_ t)) (eP xs lo h x) [(32,[.b false])] (.exit 2) (M7 len at_) (eP xs lo h x) [decide ((t:Int)<16)=false]:=by delta oX;kernel_rfl
theorem p13 (x:Nat→Int) (g:Nat→SV):oX Γ 100 A13 (fill g 0 (M7 len at_)) (eP xs lo h x) [] .normal (M3 len at_ 16) (eP xs lo h x) []:=by delta oX;kernel_rfl
theorem step3 (x:Nat→Int) (t:Nat) (a b c d v:Int) (g:Nat→SV):oX Γ 100 L3 (fill g 0 (M3 len at_ (t+16))) (eP xs lo h x) [(79,[.b true]),(83,[.n ((t+14:Nat):Int)]),(84,[.dyn]),(85,[.n a]),(88,[.n ((t+14:Nat):Int)]),(89,[.dyn]),(90,[.n a]),(94,[.n ((t+14:Nat):Int)]),(95,[.dyn]),(96,[.n a]),(100,[.n ((t+1:Nat):Int)]),(101,[.dyn]),(102,[.n b]),(105,[.n ((t+1:Nat):Int)]),(106,[.dyn]),(107,[.n b]),(111,[.n ((t+1:Nat):Int)]),(112,[.dyn]),(113,[.n b]),(119,[.n ((t+9:Nat):Int)]),(120,[.dyn]),(121,[.n c]),(126,[.n ((t:Nat):Int)]),(127,[.dyn]),(128,[.n d]),(129,[.n v]),(130,[.dyn]),(81,[.n ((t+17:Nat):Int)])] .normal (M3 len at_ (t+17)) (eP xs lo h (putF (0+(t+16)) [v] x)) [decide (((t+16:Nat):Int)<64)=true,IntKind.i64.wrap (((t+16:Nat):Int)-2)=((t+14:Nat):Int),0≤((t+14:Nat):Int),((t+14:Nat):Int)<((64:Nat):Int),0+(t+14)<(bR x 0 64).length,(bR x 0 64).getD (0+(t+14)) 0=a,IntKind.i64.wrap (((t+16:Nat):Int)-2)=((t+14:Nat):Int),0≤((t+14:Nat):Int),((t+14:Nat):Int)<((64:Nat):Int),0+(t+14)<(bR x 0 64).length,(bR x 0 64).getD (0+(t+14)) 0=a,IntKind.i64.wrap (((t+16:Nat):Int)-2)=((t+14:Nat):Int),0≤((t+14:Nat):Int),((t+14:Nat):Int)<((64:Nat):Int),0+(t+14)<(bR x 0 64).length,(bR x 0 64).getD (0+(t+14)) 0=a,IntKind.i64.wrap (((t+16:Nat):Int)-15)=((t+1:Nat):Int),0≤((t+1:Nat):Int),((t+1:Nat):Int)<((64:Nat):Int),0+(t+1)<(bR x 0 64).length,(bR x 0 64).getD (0+(t+1)) 0=b,IntKind.i64.wrap (((t+16:Nat):Int)-15)=((t+1:Nat):Int),0≤((t+1:Nat):Int),((t+1:Nat):Int)<((64:Nat):Int),0+(t+1)<(bR x 0 64).length,(bR x 0 64).getD (0+(t+1)) 0=b,IntKind.i64.wrap (((t+16:Nat):Int)-15)=((t+1:Nat):Int),0≤((t+1:Nat):Int),((t+1:Nat):Int)<((64:Nat):Int),0+(t+1)<(bR x 0 64).length,(bR x 0 64).getD (0+(t+1)) 0=b,IntKind.i64.wrap (((t+16:Nat):Int)-7)=((t+9:Nat):Int),0≤((t+9:Nat):Int),((t+9:Nat):Int)<((64:Nat):Int),0+(t+9)<(bR x 0 64).length,(bR x 0 64).getD (0+(t+9)) 0=c,IntKind.i64.wrap (((t+16:Nat):Int)-16)=((t:Nat):Int),0≤((t:Nat):Int),((t:Nat):Int)<((64:Nat):Int),0+(t)<(bR x 0 64).length,(bR x 0 64).getD (0+(t)) 0=d,qc a b c d=v,0≤((t+16:Nat):Int),((t+16:Nat):Int)<((64:Nat):Int),0+(t+16)+1≤(bR x 0 64).length,IntKind.i64.wrap (((t+16:Nat):Int)+1)=((t+17:Nat):Int)]:=by delta oX;kernel_rfl
theorem end3 (x:Nat→Int) (t:Nat) (g:Nat→SV):oX Γ 100 L3 (fill g 0 (M3 len at_ t)) (eP xs lo h x) [(79,[.b false])] (.exit 4) (M7 len at_) (eP xs lo h x) [decide ((t:Int)<64)=false]:=by delta oX;kernel_rfl
theorem p19 (x:Nat→Int) (g:Nat→SV):oX Γ 100 A19 (fill g 0 (M7 len at_)) (eP xs lo h x) [] .normal (M19 len at_) (fF xs lo h x h) []:=by delta oX;kernel_rfl
theorem p20 (x:Nat→Int) (s:Nat→Int) (g:Nat→SV):oX Γ 100 A20 (fill g 0 (M19 len at_)) (fF xs lo h x s) [] .normal (M4 len at_ 0) (fF xs lo h x s) []:=by delta oX;kernel_rfl
theorem step4 (x:Nat→Int) (s:Nat→Int) (t:Nat) (k w:Int) (g:Nat→SV):oX Γ 100 L4 (fill g 0 (M4 len at_ t)) (fF xs lo h x s) [(133,[.b true]),(162,[.dyn]),(163,[.n k]),(166,[.dyn]),(167,[.n w]),(213,[.n ((t+1:Nat):Int)])] .normal (M4 len at_ (t+1)) (fF xs lo h x (qd s k w)) [decide ((t:Int)<64)=true,0≤(t:Int),(t:Int)<((64:Nat):Int),0+t<jI.length,jI.getD (0+t) 0=k,0≤((t:Nat):Int),((t:Nat):Int)<((64:Nat):Int),0+(t)<(bR x 0 64).length,(bR x 0 64).getD (0+(t)) 0=w,IntKind.i64.wrap ((t:Int)+1)=((t+1:Nat):Int)]:=by delta oX;kernel_rfl
theorem end4 (x:Nat→Int) (s:Nat→Int) (t:Nat) (g:Nat→SV):oX Γ 100 L4 (fill g 0 (M4 len at_ t)) (fF xs lo h x s) [(133,[.b false])] (.exit 6) (M19 len at_) (fF xs lo h x s) [decide ((t:Int)<64)=false]:=by delta oX;kernel_rfl
theorem p28 (x:Nat→Int) (s:Nat→Int) (g:Nat→SV):oX Γ 100 A28 (fill g 0 (M19 len at_)) (fF xs lo h x s) [] .normal (M5 len at_ 0) (fF xs lo (sblk.jK h s 0) x s) []:=by delta oX;kernel_rfl
theorem tab5 (x:Nat→Int) (s:Nat→Int) (g:Nat→SV):fV (fun t=>jq (fF xs lo (sblk.jK h s (t+1)) x s).length (M5 len at_ (t+1)) (exec Γ tys 100 L5 ⟨fill g 0 (M5 len at_ t),fF xs lo (sblk.jK h s t) x s,[]⟩)) 8=fU (fun t=>some (.normal,live (M5 len at_ (t+1)),(M5 len at_ (t+1)).length,fF xs lo (sblk.jK h s (t+1)) x s,[])) 8:=by kernel_rfl
theorem end5 (x:Nat→Int) (s:Nat→Int) (g:Nat→SV):oX Γ 100 L5 (fill g 0 (M5 len at_ 8)) (fF xs lo (sblk.jK h s 8) x s) [] (.exit 8) (MH len at_) (eO xs lo (fun i=>kJ (h i) (s i))) []:=by delta oX;kernel_rfl
theorem p6 (g:Nat→SV):oX Γ 100 A6 (fill g 0 (MH len at_)) (eO xs lo h) [(30,[.n ((at_+64:Nat):Int)])] .normal (MH len (at_+64)) (eO xs lo h) [IntKind.i64.wrap ((at_:Int)+64)=((at_+64:Nat):Int)]:=by delta oX;kernel_rfl
noncomputable def fin (g:Nat→SV):St:=outS Γ tys 100 DD ⟨fill g 0 (MH len at_),eO xs lo h,[]⟩
theorem d (g:Nat→SV):exec Γ tys 100 DD ⟨fill g 0 (MH len at_),eO xs lo h,[]⟩=some (.ret,⟨(fin len at_ lo xs h g).tm,(fin len at_ lo xs h g).mem,[]⟩,[]):=by kernel_rfl
theorem res (g:Nat→SV):eRes tys (fin len at_ lo xs h g).tm (fun k=>(fin len at_ lo xs h g).mem[k]?) fn.results.toList=some [.g ((outR h).to.map (aG .u8))]:=by kernel_rfl
end
end none
end r256
theorem u32_wrap (x:Int):IntKind.u32.wrap x=x%4294967296:=by rw[IntKind.wrap_u32]
theorem u8_wrap (x:Int):IntKind.u8.wrap x=x%256:=by rw[IntKind.wrap_u8]
theorem wraps_u32 (n:Int) (h₀:0≤n) (h₁:n<2^32):IntKind.u32.wrap n=n:=by rw[u32_wrap];omega
theorem wraps_u64 (n:Int) (h₀:0≤n) (h₁:n<2^64):IntKind.u64.wrap n=n:=by rw[dR];omega
theorem or32_add (i:Nat) (x y:Int) (hx0:0≤x) (hx1:x<4294967296) (hx:x%2^i=0) (hy0:0≤y) (hy:y<2^i) (hy1:y<4294967296):bits .or .u32 x y=x+y:=
 bits_join .u32 32 (by decide) wraps_u32 i x y hx0 hx hx1 hy0 hy hy1
theorem or64_add (i:Nat) (x y:Int) (hx0:0≤x) (hx1:x<18446744073709551616) (hx:x%2^i=0) (hy0:0≤y) (hy:y<2^i) (hy1:y<18446744073709551616):bits .or .u64 x y=x+y:=
 bits_join .u64 64 (by decide) wraps_u64 i x y hx0 hx hx1 hy0 hy hy1
def Byt (x:Int):Prop:=0≤x∧x<256
theorem tN {a x:Int} (h0:0≤a) (h1:a<72057594037927936) (hx:Byt x):wordS a x=a*256+x:=by
 obtain⟨x0,x1⟩:=hx
 unfold wordS orU shlU
 rw[dR,dR,or64_add 8 _ _ (by omega) (by omega) (by omega) (by omega) (by omega) (by omega)]
 omega
theorem wordR_eq {a b c d:Int} (ha:Byt a) (hb:Byt b) (hc:Byt c) (hd:Byt d):wordR a b c d=IntKind.u32.wrap (iL [a,b,c,d]):=by
 have e:iL [a,b,c,d]=wordS (wordS (wordS (wordS 0 a) b) c) d:=rfl
 rw[e,tN (by omega) (by omega) ha]
 have ha':=ha;have hb':=hb;have hc':=hc;have hd':=hd
 unfold Byt at ha' hb' hc' hd'
 rw[tN (by omega) (by omega) hb,tN (by omega) (by omega) hc,tN (by omega) (by omega) hd]
 unfold wordR
 simp only[u32_wrap]
 have e1:bits .or .u32 (a%4294967296*2^24%4294967296) (b%4294967296*2^16%4294967296)=a*16777216+b*65536:=by
  rw[or32_add 24 _ _ (by omega) (by omega) (by omega) (by omega) (by omega) (by omega)];omega
 rw[e1]
 have e2:bits .or .u32 (a*16777216+b*65536) (c%4294967296*2^8%4294967296)=a*16777216+b*65536+c*256:=by
  rw[or32_add 16 _ _ (by omega) (by omega) (by omega) (by omega) (by omega) (by omega)];omega
 rw[e2,or32_add 8 _ _ (by omega) (by omega) (by omega) (by omega) (by omega) (by omega)]
 omega
theorem i64n {x:Int} {n:Nat} (h:x=(n:Int)) (hn:n<9223372036854775808):IntKind.i64.wrap x=(n:Int):=by rw[h,jP _ (by omega) (by omega)]
def refH (xs:List Int):Nat→Nat→Int
 | 0=>r256.h0
 | i+1=>lS (refH xs i) (kC fun j=>xs.getD (64*i+j) 0)
def refB (ys:List Int):B32:=outR (refH (bV ys 64 8) ((bV ys 64 8).length/64))
theorem byteAt_byt (v:Int) (s:Nat):Byt (bZ v s):=by
 unfold bZ Byt
 rw[u8_wrap];omega
theorem lenB_byt (bt:Int):∀i,∀y∈fM bt i,Byt y
 | 0,y,h=>by cases h
 | i+1,y,h=>by
  rw[fM,List.mem_cons] at h
  rcases h with rfl | h
  ·unfold jM
   cases Nat.ble 8 i
   ·exact byteAt_byt _ _
   ·show Byt 0
    exact⟨by decide,by decide⟩
  ·exact lenB_byt bt i y h
theorem padR_byt {ys:List Int} (h:∀y∈ys,Byt y) (bk ln:Nat):∀y∈bV ys bk ln,Byt y:=by
 intro y hy
 unfold bV at hy
 simp only[List.mem_append,List.mem_singleton,List.mem_replicate] at hy
 rcases hy with hy | rfl | ⟨_,rfl⟩ | hy
 ·exact h y hy
 ·exact⟨by decide,by decide⟩
 ·exact⟨by decide,by decide⟩
 ·exact lenB_byt _ _ y hy
theorem sD (ys:List Int) (bk ln:Nat):(bV ys bk ln).length=ys.length+1+dM ys.length bk ln+ln:=by
 unfold bV
 simp only[List.length_append,List.length_singleton,List.length_replicate,jB]
 omega
theorem mI {xs:List Int} (h:∀y∈xs,Byt y) (i:Nat):Byt (xs.getD i 0):=by
 rcases Nat.lt_or_ge i xs.length with hi | hi
 ·simp only[List.getD,List.getElem?_eq_getElem hi,Option.getD_some]
  exact h _ (List.getElem_mem hi)
 ·simp only[List.getD,List.getElem?_eq_none hi,Option.getD_none]
  exact⟨by decide,by decide⟩
section
variable {Post:Ex→List SV→List Blk→Prop}
section
variable (ys:List Int) (ty:TypeId) (len at_ lo:Nat) (xs:List Int)
theorem r256_win_loop2 (h W x : Nat → Int) (hl : xs.length = len) (ha : at_ + 64 ≤ len) (hs : len ≤ 140737488358400) (hW : ∀ t, t < 16 → wordR (xs.getD (at_ + 4 * t) 0) (xs.getD (at_ + 4 * t + 1) 0) (xs.getD (at_ + 4 * t + 2) 0) (xs.getD (at_ + 4 * t + 3) 0) = W t) (hp : ∀ g x, (∀ j, j < 16 → x j = W j) → Post .normal (fill g 0 (r256.win.M7 len at_)) (r256.win.eP ys ty xs lo h x)) (g : Nat → SV) :
    aF Tryd.prog Gs 1 (.block 2 (.loop r256.L2)) (fill g 0 (r256.win.M2 len at_ 0)) (r256.win.eP ys ty xs lo h x) Post := by
  refine Runs.block ?_
  refine Runs.dA (fun (p : Nat × (Nat → Int)) => r256.win.M2 len at_ p.1) (fun p => r256.win.eP ys ty xs lo h p.2) (fun p => p.1 ≤ 16 ∧ ∀ j, j < p.1 → p.2 j = W j) (fun p => 16 - p.1) ?_ (0, x) ⟨Nat.zero_le _, fun j hj => by simp only at hj; omega⟩ g
  rintro ⟨t, x⟩ g ⟨ht, hx⟩
  simp only at ht hx
  by_cases hlt : t < 16
  · have w0 : IntKind.i64.wrap (4 * (t : Int)) = ((4 * t : Nat) : Int) := i64n (by omega) (by omega)
    have w1 : IntKind.i64.wrap ((at_ : Int) + ((4 * t : Nat) : Int)) = ((at_ + 4 * t : Nat) : Int) := i64n (by omega) (by omega)
    have wi : ∀ i : Nat, i < 100 → IntKind.i64.wrap (((at_ + 4 * t : Nat) : Int) + (i : Int)) = ((at_ + 4 * t + i : Nat) : Int) := fun i hi => i64n (by omega) (by omega)
    have ld : ∀ e : Nat, e < len → 0 ≤ (e : Int) ∧ (e : Int) < (len : Int) ∧ 0 + e < xs.length := fun e he => ⟨by omega, by omega, by omega⟩
    have z : ∀ e : Nat, xs.getD (0 + e) 0 = xs.getD e 0 := fun e => by rw [Nat.zero_add]
    refine Runs.au aj mixed (r256.win.step2 ys ty len at_ lo xs h x t (xs.getD (at_ + 4 * t) 0) (xs.getD (at_ + 4 * t + 1) 0) (xs.getD (at_ + 4 * t + 2) 0) (xs.getD (at_ + 4 * t + 3) 0) (W t) g)
      ⟨decide_eq_true (by omega), w0, w1, (ld _ (by omega)).1, (ld _ (by omega)).2.1, (ld _ (by omega)).2.2, z _, w0, w1, wi 1 (by omega), (ld _ (by omega)).1, (ld _ (by omega)).2.1, (ld _ (by omega)).2.2, z _,
       w0, w1, wi 2 (by omega), (ld _ (by omega)).1, (ld _ (by omega)).2.1, (ld _ (by omega)).2.2, z _, w0, w1, wi 3 (by omega), (ld _ (by omega)).1, (ld _ (by omega)).2.1, (ld _ (by omega)).2.2, z _,
       hW t hlt, by omega, by omega, by rw [fB]; omega, i64n (by omega) (by omega), trivial⟩ (r256.win.gG ys ty _ _ _ _ _ _ _) rfl fun g' => ⟨(t + 1, putF (0 + t) [W t] x), g', rfl, rfl, ⟨hlt, fun j hj => ?_⟩, by simp only; omega⟩
    simp only at hj ⊢
    rw [pI]
    by_cases e : j = 0 + t
    · rw [if_pos e, e, Nat.zero_add]
    · rw [if_neg e]; exact hx j (by omega)
  · obtain rfl : t = 16 := by omega
    exact Runs.au aj mixed (r256.win.end2 ys ty len at_ lo xs h x 16 g) ⟨by decide, trivial⟩ (r256.win.ids7 ys ty _ _ _ _ _ _) rfl fun g' => hp g' x hx
theorem r256_win_loop3 (h W x : Nat → Int) (hS : ∀ t, t < 48 → qc (W (t + 14)) (W (t + 1)) (W (t + 9)) (W t) = W (t + 16)) (hx0 : ∀ j, j < 16 → x j = W j) (hp : ∀ g x, (∀ j, j < 64 → x j = W j) → Post .normal (fill g 0 (r256.win.M7 len at_)) (r256.win.eP ys ty xs lo h x)) (g : Nat → SV) :
    aF Tryd.prog Gs 1 (.block 4 (.loop r256.L3)) (fill g 0 (r256.win.M3 len at_ 16)) (r256.win.eP ys ty xs lo h x) Post := by
  refine Runs.block ?_
  refine Runs.dA (fun (p : Nat × (Nat → Int)) => r256.win.M3 len at_ (p.1 + 16)) (fun p => r256.win.eP ys ty xs lo h p.2) (fun p => p.1 ≤ 48 ∧ ∀ j, j < p.1 + 16 → p.2 j = W j) (fun p => 48 - p.1) ?_ (0, x) ⟨Nat.zero_le _, fun j hj => hx0 j (by simpa using hj)⟩ g
  rintro ⟨t, x⟩ g ⟨ht, hx⟩
  simp only at ht hx
  by_cases hlt : t < 48
  · have w14 : IntKind.i64.wrap (((t + 16 : Nat) : Int) - 2) = ((t + 14 : Nat) : Int) := i64n (by omega) (by omega)
    have w1 : IntKind.i64.wrap (((t + 16 : Nat) : Int) - 15) = ((t + 1 : Nat) : Int) := i64n (by omega) (by omega)
    have w9 : IntKind.i64.wrap (((t + 16 : Nat) : Int) - 7) = ((t + 9 : Nat) : Int) := i64n (by omega) (by omega)
    have w0 : IntKind.i64.wrap (((t + 16 : Nat) : Int) - 16) = ((t : Nat) : Int) := i64n (by omega) (by omega)
    have ld : ∀ e : Nat, e < 64 → 0 ≤ (e : Int) ∧ (e : Int) < ((64 : Nat) : Int) ∧ 0 + e < (bR x 0 64).length := fun e he => ⟨by omega, by omega, by rw [fB]; omega⟩
    have r : ∀ e : Nat, e < t + 16 → (bR x 0 64).getD (0 + e) 0 = W e := fun e he => by rw [mZ x e (by omega)]; exact hx e he
    have a1 := ld (t + 14) (by omega)
    have a2 := r (t + 14) (by omega)
    have b1 := ld (t + 1) (by omega)
    have b2 := r (t + 1) (by omega)
    have c1 := ld (t + 9) (by omega)
    have c2 := r (t + 9) (by omega)
    have d1 := ld t (by omega)
    have d2 := r t (by omega)
    refine Runs.au aj mixed (r256.win.step3 ys ty len at_ lo xs h x t (W (t + 14)) (W (t + 1)) (W (t + 9)) (W t) (W (t + 16)) g)
      ⟨decide_eq_true (by omega), w14, a1.1, a1.2.1, a1.2.2, a2, w14, a1.1, a1.2.1, a1.2.2, a2, w14, a1.1, a1.2.1, a1.2.2, a2, w1, b1.1, b1.2.1, b1.2.2, b2, w1, b1.1, b1.2.1, b1.2.2, b2, w1, b1.1, b1.2.1, b1.2.2, b2,
       w9, c1.1, c1.2.1, c1.2.2, c2, w0, d1.1, d1.2.1, d1.2.2, d2, hS t hlt, by omega, by omega, by rw [fB]; omega, i64n (by omega) (by omega), trivial⟩ (r256.win.jO ys ty _ _ _ _ _ _ _) rfl fun g' => ⟨(t + 1, putF (0 + (t + 16)) [W (t + 16)] x), g', rfl, rfl, ⟨hlt, fun j hj => ?_⟩, by simp only; omega⟩
    simp only at hj ⊢
    rw [pI]
    by_cases e : j = 0 + (t + 16)
    · rw [if_pos e, e, Nat.zero_add]
    · rw [if_neg e]; exact hx j (by omega)
  · obtain rfl : t = 48 := by omega
    exact Runs.au aj mixed (r256.win.end3 ys ty len at_ lo xs h x 64 g) ⟨by decide, trivial⟩ (r256.win.ids7 ys ty _ _ _ _ _ _) rfl fun g' => hp g' x hx
theorem r256_win_loop4 (h W x:Nat→Int) (hx:∀j,j<64→x j=W j) (hp:∀g,Post .normal (fill g 0 (r256.win.M19 len at_)) (r256.win.fF ys ty xs lo h x (rounds h W 64))) (g:Nat→SV):
  aF Tryd.prog Gs 1 (.block 6 (.loop r256.L4)) (fill g 0 (r256.win.M4 len at_ 0)) (r256.win.fF ys ty xs lo h x h) Post:=by
 refine Runs.block ?_
 refine Runs.dA (fun(t:Nat)=>r256.win.M4 len at_ t) (fun t=>r256.win.fF ys ty xs lo h x (rounds h W t)) (fun t=>t≤64) (fun t=>64-t) ?_ 0 (Nat.zero_le _) g
 intro t g ht
 by_cases hlt:t<64
 ·exact Runs.au aj mixed (r256.win.step4 ys ty len at_ lo xs h x (rounds h W t) t (jI.getD t 0) (W t) g)
   ⟨decide_eq_true (by omega),by omega,by omega,by show 0+t<64;omega,by rw[Nat.zero_add],by omega,by omega,by rw[fB];omega,by rw[mZ x t hlt];exact hx t hlt,i64n (by omega) (by omega),trivial⟩ (r256.win.ids4 ys ty _ _ _ _ _ _ _ _) rfl fun g'=>⟨t+1,g',rfl,rfl,hlt,by omega⟩
 ·obtain rfl:t=64:=by omega
  exact Runs.au aj mixed (r256.win.end4 ys ty len at_ lo xs h x _ 64 g) ⟨by decide,trivial⟩ (r256.win.ids19 ys ty _ _ _ _ _ _ _) rfl hp
theorem r256_win_loop5 (h x s:Nat→Int) (hp:∀g,Post .normal (fill g 0 (r256.win.MH len at_)) (r256.win.eO ys ty xs lo (fun i=>kJ (h i) (s i)))) (g:Nat→SV):
  aF Tryd.prog Gs 1 (.block 8 (.loop r256.L5)) (fill g 0 (r256.win.M5 len at_ 0)) (r256.win.fF ys ty xs lo (sblk.jK h s 0) x s) Post:=by
 refine Runs.block ?_
 refine Runs.dA (fun(t:Nat)=>r256.win.M5 len at_ t) (fun t=>r256.win.fF ys ty xs lo (sblk.jK h s t) x s) (fun t=>t≤8) (fun t=>8-t) ?_ 0 (Nat.zero_le _) g
 intro t g ht
 by_cases hlt:t<8
 ·exact Runs.au aj mixed (dK (r256.win.tab5 ys ty len at_ lo xs h x s g) t hlt) trivial (r256.win.ids5 ys ty _ _ _ _ _ _ _ _) rfl fun g'=>⟨t+1,g',rfl,rfl,hlt,by omega⟩
 ·obtain rfl:t=8:=by omega
  exact Runs.au aj mixed (r256.win.end5 ys ty len at_ lo xs h x s g) trivial (r256.win.idsH ys ty _ _ _ _ _) rfl hp
theorem r256_win_block (h:Nat→Int) (hl:xs.length=len) (ha:at_+64≤len) (hs:len≤140737488358400) (hb:∀y∈xs,Byt y) (hp:∀g,Post .normal (fill g 0 (r256.win.MH len at_)) (r256.win.eO ys ty xs lo (lS h (kC fun j=>xs.getD (at_+j) 0)))) (g:Nat→SV):
  aF Tryd.prog Gs 1 (.block 1 (.seq r256.A7 (.seq (.seq r256.A8 (.block 2 (.loop r256.L2))) (.seq (.seq r256.A13 (.block 4 (.loop r256.L3))) (.seq r256.A19 (.seq (.seq r256.A20 (.block 6 (.loop r256.L4))) (.seq r256.A28 (.block 8 (.loop r256.L5))))))))) (fill g 0 (r256.win.MH len at_)) (r256.win.eO ys ty xs lo h) Post:=by
 have hS:=lI fun j=>xs.getD (at_+j) 0
 refine Runs.block ?_
 refine Runs.seq (Runs.au aj mixed (r256.win.p7 ys ty len at_ lo xs h g) trivial (r256.win.ids7 ys ty _ _ _ _ _ _) rfl fun g=> ?_)
 refine Runs.seq (Runs.seq (Runs.au aj mixed (r256.win.p8 ys ty len at_ lo xs h _ g) trivial (r256.win.gG ys ty _ _ _ _ _ _ _) rfl fun g=> ?_))
 refine r256_win_loop2 ys ty len at_ lo xs h (kC fun j=>xs.getD (at_+j) 0) _ hl ha hs (fun t ht=> ?_) (fun g x hx=> ?_) g
 ·rw[wordR_eq (mI hb _) (mI hb _) (mI hb _) (mI hb _)]
  exact hS.1 t ht
 refine Runs.seq (Runs.seq (Runs.au aj mixed (r256.win.p13 ys ty len at_ lo xs h _ g) trivial (r256.win.jO ys ty _ _ _ _ _ _ _) rfl fun g=> ?_))
 refine r256_win_loop3 ys ty len at_ lo xs h _ x hS.2 hx (fun g x hx=> ?_) g
 refine Runs.seq (Runs.au aj mixed (r256.win.p19 ys ty len at_ lo xs h _ g) trivial (r256.win.ids19 ys ty _ _ _ _ _ _ _) rfl fun g=> ?_)
 refine Runs.seq (Runs.seq (Runs.au aj mixed (r256.win.p20 ys ty len at_ lo xs h _ _ g) trivial (r256.win.ids4 ys ty _ _ _ _ _ _ _ _) rfl fun g=> ?_))
 refine r256_win_loop4 ys ty len at_ lo xs h _ x hx (fun g=> ?_) g
 refine Runs.seq (Runs.au aj mixed (r256.win.p28 ys ty len at_ lo xs h _ _ g) trivial (r256.win.ids5 ys ty _ _ _ _ _ _ _ _) rfl fun g=> ?_)
 refine r256_win_loop5 ys ty len at_ lo xs h x _ (fun g=> ?_) g
 exact hp g
end
theorem r256_win_great (ys:List Int) (ty:TypeId) (nb lo:Nat) (xs:List Int) (hl:xs.length=64*nb) (hs:nb≤2199023255600) (hb:∀y∈xs,Byt y)
  (hp:∀g,Post .normal (fill g 0 (r256.win.MH (64*nb) (64*nb))) (r256.win.eO ys ty xs lo (refH xs nb))) (g:Nat→SV):
  aF Tryd.prog Gs 1 (.block 0 (.loop r256.LL)) (fill g 0 (r256.win.MH (64*nb) (64*0))) (r256.win.eO ys ty xs lo (refH xs 0)) Post:=by
 refine Runs.block ?_
 refine Runs.dA (fun(i:Nat)=>r256.win.MH (64*nb) (64*i)) (fun i=>r256.win.eO ys ty xs lo (refH xs i)) (fun i=>i≤nb) (fun i=>nb-i) ?_ 0 (Nat.zero_le _) g
 intro i g hi
 rw[r256.LL_eq]
 by_cases hlt:i<nb
 ·refine Runs.seq (Runs.au aj mixed (r256.win.go ys ty (64*nb) (64*i) lo xs _ g) ⟨decide_eq_true (by omega),trivial⟩ (r256.win.idsH ys ty _ _ _ _ _) rfl fun g=> ?_)
  refine Runs.seq (r256_win_block ys ty (64*nb) (64*i) lo xs _ hl (by omega) (by omega) hb (fun g=> ?_) g)
  exact Runs.au aj mixed (r256.win.p6 ys ty (64*nb) (64*i) lo xs _ g) ⟨i64n (by omega) (by omega),trivial⟩ (r256.win.idsH ys ty _ _ _ _ _) rfl fun g'=>⟨i+1,g',rfl,rfl,hlt,by omega⟩
 ·obtain rfl:i=nb:=by omega
  exact Runs.seq (Runs.au aj mixed (r256.win.stop ys ty (64*i) (64*i) lo xs _ g) ⟨decide_eq_false (by omega),trivial⟩ (r256.win.idsH ys ty _ _ _ _ _) rfl fun g=>hp g)
theorem r256_win_run (ys:List Int) (n c:Nat) (ty:TypeId) (hy:ys.length=n) (hc:n≤c) (hn:n≤140737488354000) (hb:∀y∈ys,Byt y):aF Tryd.prog Gs 1 r256.body (aK r256.fn [.o (.a (.sld 0 0 0 n c))]) [⟨false,ty,.pre .u8 ys⟩] (aH tys r256.fn (bJ (ay.enc (refB ys)) .none)):=by
 obtain⟨z1,z2,z3⟩:=og (ys:List Int).length
 have hL:=sD ys 64 8
 have e:(ys.drop 0).take n=ys:=by rw[List.drop_zero,List.take_of_length_le (by omega)]
 rw[r256.ku]
 refine Runs.seq (Runs.au aj mixed (r256.win.a0 ys ty n c) trivial (r256.win.idsN0 ys ty n c) rfl fun g=> ?_)
 refine Runs.seq (Runs.au aj mixed (r256.win.a1 ys ty n c g) trivial (r256.win.idsN1 ys ty n c) rfl fun g=> ?_)
 refine Runs.seq (Runs.au aj mixed (r256.win.a2 ys ty n c g) trivial (r256.win.idsN2 ys ty n c) rfl fun g=> ?_)
 refine Runs.seq (Runs.au aj mixed (r256.win.a3 ys ty n c g) ⟨by omega,hc,hn,trivial⟩ (r256.win.idsN3 ys ty _ _ _) rfl fun g=> ?_)
 show aF _ _ _ _ (fill g 0 (r256.win.N3 (bV ((ys.drop 0).take n) 64 8).length)) (r256.win.eO ys ty (bV ((ys.drop 0).take n) 64 8) (bV ((ys.drop 0).take n) 64 8).length r256.h0) _
 rw[e]
 refine Runs.seq (Runs.seq (Runs.au aj mixed (r256.win.a4 ys ty _ _ _ g) trivial (r256.win.idsH ys ty _ _ _ _ _) rfl fun g=> ?_))
 have hy0:(ys:List Int).length≤140737488354000:=by first | (rw[hy];exact hn) | exact Nat.zero_le _
 have hnb:(bV ys 64 8).length=64*((bV ys 64 8).length/64):=by omega
 have hg:=r256_win_great (Post:=fun e t m=>match e with | .normal=>aF Tryd.prog Gs 1 r256.DD t m (aH tys r256.fn (bJ (ay.enc (refB ys)) .none)) | .exit i=>aH tys r256.fn (bJ (ay.enc (refB ys)) .none) (.exit i) t m | .ret=>aH tys r256.fn (bJ (ay.enc (refB ys)) .none) .ret t m) ys ty ((bV ys 64 8).length/64) (bV ys 64 8).length (bV ys 64 8) hnb (by omega) (padR_byt hb 64 8) (fun g=>Runs.eB aj mixed (r256.win.d ys ty _ _ _ _ _ g) trivial (aH.ret (r256.win.res ys ty _ _ _ _ _ g) rfl)) g
 rw[←hnb] at hg
 exact hg
section
variable (len at_ lo:Nat) (xs:List Int)
theorem wO (h W x : Nat → Int) (hl : xs.length = len) (ha : at_ + 64 ≤ len) (hs : len ≤ 140737488358400) (hW : ∀ t, t < 16 → wordR (xs.getD (at_ + 4 * t) 0) (xs.getD (at_ + 4 * t + 1) 0) (xs.getD (at_ + 4 * t + 2) 0) (xs.getD (at_ + 4 * t + 3) 0) = W t) (hp : ∀ g x, (∀ j, j < 16 → x j = W j) → Post .normal (fill g 0 (r256.none.M7 len at_)) (r256.none.eP xs lo h x)) (g : Nat → SV) :
    aF Tryd.prog Gs 0 (.block 2 (.loop r256.L2)) (fill g 0 (r256.none.M2 len at_ 0)) (r256.none.eP xs lo h x) Post := by
  refine Runs.block ?_
  refine Runs.dA (fun (p : Nat × (Nat → Int)) => r256.none.M2 len at_ p.1) (fun p => r256.none.eP xs lo h p.2) (fun p => p.1 ≤ 16 ∧ ∀ j, j < p.1 → p.2 j = W j) (fun p => 16 - p.1) ?_ (0, x) ⟨Nat.zero_le _, fun j hj => by simp only at hj; omega⟩ g
  rintro ⟨t, x⟩ g ⟨ht, hx⟩
  simp only at ht hx
  by_cases hlt : t < 16
  · have w0 : IntKind.i64.wrap (4 * (t : Int)) = ((4 * t : Nat) : Int) := i64n (by omega) (by omega)
    have w1 : IntKind.i64.wrap ((at_ : Int) + ((4 * t : Nat) : Int)) = ((at_ + 4 * t : Nat) : Int) := i64n (by omega) (by omega)
    have wi : ∀ i : Nat, i < 100 → IntKind.i64.wrap (((at_ + 4 * t : Nat) : Int) + (i : Int)) = ((at_ + 4 * t + i : Nat) : Int) := fun i hi => i64n (by omega) (by omega)
    have ld : ∀ e : Nat, e < len → 0 ≤ (e : Int) ∧ (e : Int) < (len : Int) ∧ 0 + e < xs.length := fun e he => ⟨by omega, by omega, by omega⟩
    have z : ∀ e : Nat, xs.getD (0 + e) 0 = xs.getD e 0 := fun e => by rw [Nat.zero_add]
    refine Runs.au aj mixed (r256.none.step2 len at_ lo xs h x t (xs.getD (at_ + 4 * t) 0) (xs.getD (at_ + 4 * t + 1) 0) (xs.getD (at_ + 4 * t + 2) 0) (xs.getD (at_ + 4 * t + 3) 0) (W t) g)
      ⟨decide_eq_true (by omega), w0, w1, (ld _ (by omega)).1, (ld _ (by omega)).2.1, (ld _ (by omega)).2.2, z _, w0, w1, wi 1 (by omega), (ld _ (by omega)).1, (ld _ (by omega)).2.1, (ld _ (by omega)).2.2, z _,
       w0, w1, wi 2 (by omega), (ld _ (by omega)).1, (ld _ (by omega)).2.1, (ld _ (by omega)).2.2, z _, w0, w1, wi 3 (by omega), (ld _ (by omega)).1, (ld _ (by omega)).2.1, (ld _ (by omega)).2.2, z _,
       hW t hlt, by omega, by omega, by rw [fB]; omega, i64n (by omega) (by omega), trivial⟩ (r256.none.gG _ _ _ _ _ _ _) rfl fun g' => ⟨(t + 1, putF (0 + t) [W t] x), g', rfl, rfl, ⟨hlt, fun j hj => ?_⟩, by simp only; omega⟩
    simp only at hj ⊢
    rw [pI]
    by_cases e : j = 0 + t
    · rw [if_pos e, e, Nat.zero_add]
    · rw [if_neg e]; exact hx j (by omega)
  · obtain rfl : t = 16 := by omega
    exact Runs.au aj mixed (r256.none.end2 len at_ lo xs h x 16 g) ⟨by decide, trivial⟩ (r256.none.ids7 _ _ _ _ _ _) rfl fun g' => hp g' x hx
theorem wN (h W x : Nat → Int) (hS : ∀ t, t < 48 → qc (W (t + 14)) (W (t + 1)) (W (t + 9)) (W t) = W (t + 16)) (hx0 : ∀ j, j < 16 → x j = W j) (hp : ∀ g x, (∀ j, j < 64 → x j = W j) → Post .normal (fill g 0 (r256.none.M7 len at_)) (r256.none.eP xs lo h x)) (g : Nat → SV) :
    aF Tryd.prog Gs 0 (.block 4 (.loop r256.L3)) (fill g 0 (r256.none.M3 len at_ 16)) (r256.none.eP xs lo h x) Post := by
  refine Runs.block ?_
  refine Runs.dA (fun (p : Nat × (Nat → Int)) => r256.none.M3 len at_ (p.1 + 16)) (fun p => r256.none.eP xs lo h p.2) (fun p => p.1 ≤ 48 ∧ ∀ j, j < p.1 + 16 → p.2 j = W j) (fun p => 48 - p.1) ?_ (0, x) ⟨Nat.zero_le _, fun j hj => hx0 j (by simpa using hj)⟩ g
  rintro ⟨t, x⟩ g ⟨ht, hx⟩
  simp only at ht hx
  by_cases hlt : t < 48
  · have w14 : IntKind.i64.wrap (((t + 16 : Nat) : Int) - 2) = ((t + 14 : Nat) : Int) := i64n (by omega) (by omega)
    have w1 : IntKind.i64.wrap (((t + 16 : Nat) : Int) - 15) = ((t + 1 : Nat) : Int) := i64n (by omega) (by omega)
    have w9 : IntKind.i64.wrap (((t + 16 : Nat) : Int) - 7) = ((t + 9 : Nat) : Int) := i64n (by omega) (by omega)
    have w0 : IntKind.i64.wrap (((t + 16 : Nat) : Int) - 16) = ((t : Nat) : Int) := i64n (by omega) (by omega)
    have ld : ∀ e : Nat, e < 64 → 0 ≤ (e : Int) ∧ (e : Int) < ((64 : Nat) : Int) ∧ 0 + e < (bR x 0 64).length := fun e he => ⟨by omega, by omega, by rw [fB]; omega⟩
    have r : ∀ e : Nat, e < t + 16 → (bR x 0 64).getD (0 + e) 0 = W e := fun e he => by rw [mZ x e (by omega)]; exact hx e he
    have a1 := ld (t + 14) (by omega)
    have a2 := r (t + 14) (by omega)
    have b1 := ld (t + 1) (by omega)
    have b2 := r (t + 1) (by omega)
    have c1 := ld (t + 9) (by omega)
    have c2 := r (t + 9) (by omega)
    have d1 := ld t (by omega)
    have d2 := r t (by omega)
    refine Runs.au aj mixed (r256.none.step3 len at_ lo xs h x t (W (t + 14)) (W (t + 1)) (W (t + 9)) (W t) (W (t + 16)) g)
      ⟨decide_eq_true (by omega), w14, a1.1, a1.2.1, a1.2.2, a2, w14, a1.1, a1.2.1, a1.2.2, a2, w14, a1.1, a1.2.1, a1.2.2, a2, w1, b1.1, b1.2.1, b1.2.2, b2, w1, b1.1, b1.2.1, b1.2.2, b2, w1, b1.1, b1.2.1, b1.2.2, b2,
       w9, c1.1, c1.2.1, c1.2.2, c2, w0, d1.1, d1.2.1, d1.2.2, d2, hS t hlt, by omega, by omega, by rw [fB]; omega, i64n (by omega) (by omega), trivial⟩ (r256.none.jO _ _ _ _ _ _ _) rfl fun g' => ⟨(t + 1, putF (0 + (t + 16)) [W (t + 16)] x), g', rfl, rfl, ⟨hlt, fun j hj => ?_⟩, by simp only; omega⟩
    simp only at hj ⊢
    rw [pI]
    by_cases e : j = 0 + (t + 16)
    · rw [if_pos e, e, Nat.zero_add]
    · rw [if_neg e]; exact hx j (by omega)
  · obtain rfl : t = 48 := by omega
    exact Runs.au aj mixed (r256.none.end3 len at_ lo xs h x 64 g) ⟨by decide, trivial⟩ (r256.none.ids7 _ _ _ _ _ _) rfl fun g' => hp g' x hx
theorem wM (h W x:Nat→Int) (hx:∀j,j<64→x j=W j) (hp:∀g,Post .normal (fill g 0 (r256.none.M19 len at_)) (r256.none.fF xs lo h x (rounds h W 64))) (g:Nat→SV):
  aF Tryd.prog Gs 0 (.block 6 (.loop r256.L4)) (fill g 0 (r256.none.M4 len at_ 0)) (r256.none.fF xs lo h x h) Post:=by
 refine Runs.block ?_
 refine Runs.dA (fun(t:Nat)=>r256.none.M4 len at_ t) (fun t=>r256.none.fF xs lo h x (rounds h W t)) (fun t=>t≤64) (fun t=>64-t) ?_ 0 (Nat.zero_le _) g
 intro t g ht
 by_cases hlt:t<64
 ·exact Runs.au aj mixed (r256.none.step4 len at_ lo xs h x (rounds h W t) t (jI.getD t 0) (W t) g)
   ⟨decide_eq_true (by omega),by omega,by omega,by show 0+t<64;omega,by rw[Nat.zero_add],by omega,by omega,by rw[fB];omega,by rw[mZ x t hlt];exact hx t hlt,i64n (by omega) (by omega),trivial⟩ (r256.none.ids4 _ _ _ _ _ _ _ _) rfl fun g'=>⟨t+1,g',rfl,rfl,hlt,by omega⟩
 ·obtain rfl:t=64:=by omega
  exact Runs.au aj mixed (r256.none.end4 len at_ lo xs h x _ 64 g) ⟨by decide,trivial⟩ (r256.none.ids19 _ _ _ _ _ _ _) rfl hp
theorem wL (h x s:Nat→Int) (hp:∀g,Post .normal (fill g 0 (r256.none.MH len at_)) (r256.none.eO xs lo (fun i=>kJ (h i) (s i)))) (g:Nat→SV):
  aF Tryd.prog Gs 0 (.block 8 (.loop r256.L5)) (fill g 0 (r256.none.M5 len at_ 0)) (r256.none.fF xs lo (sblk.jK h s 0) x s) Post:=by
 refine Runs.block ?_
 refine Runs.dA (fun(t:Nat)=>r256.none.M5 len at_ t) (fun t=>r256.none.fF xs lo (sblk.jK h s t) x s) (fun t=>t≤8) (fun t=>8-t) ?_ 0 (Nat.zero_le _) g
 intro t g ht
 by_cases hlt:t<8
 ·exact Runs.au aj mixed (dK (r256.none.tab5 len at_ lo xs h x s g) t hlt) trivial (r256.none.ids5 _ _ _ _ _ _ _ _) rfl fun g'=>⟨t+1,g',rfl,rfl,hlt,by omega⟩
 ·obtain rfl:t=8:=by omega
  exact Runs.au aj mixed (r256.none.end5 len at_ lo xs h x s g) trivial (r256.none.idsH _ _ _ _ _) rfl hp
theorem wQ (h:Nat→Int) (hl:xs.length=len) (ha:at_+64≤len) (hs:len≤140737488358400) (hb:∀y∈xs,Byt y) (hp:∀g,Post .normal (fill g 0 (r256.none.MH len at_)) (r256.none.eO xs lo (lS h (kC fun j=>xs.getD (at_+j) 0)))) (g:Nat→SV):
  aF Tryd.prog Gs 0 (.block 1 (.seq r256.A7 (.seq (.seq r256.A8 (.block 2 (.loop r256.L2))) (.seq (.seq r256.A13 (.block 4 (.loop r256.L3))) (.seq r256.A19 (.seq (.seq r256.A20 (.block 6 (.loop r256.L4))) (.seq r256.A28 (.block 8 (.loop r256.L5))))))))) (fill g 0 (r256.none.MH len at_)) (r256.none.eO xs lo h) Post:=by
 have hS:=lI fun j=>xs.getD (at_+j) 0
 refine Runs.block ?_
 refine Runs.seq (Runs.au aj mixed (r256.none.p7 len at_ lo xs h g) trivial (r256.none.ids7 _ _ _ _ _ _) rfl fun g=> ?_)
 refine Runs.seq (Runs.seq (Runs.au aj mixed (r256.none.p8 len at_ lo xs h _ g) trivial (r256.none.gG _ _ _ _ _ _ _) rfl fun g=> ?_))
 refine wO len at_ lo xs h (kC fun j=>xs.getD (at_+j) 0) _ hl ha hs (fun t ht=> ?_) (fun g x hx=> ?_) g
 ·rw[wordR_eq (mI hb _) (mI hb _) (mI hb _) (mI hb _)]
  exact hS.1 t ht
 refine Runs.seq (Runs.seq (Runs.au aj mixed (r256.none.p13 len at_ lo xs h _ g) trivial (r256.none.jO _ _ _ _ _ _ _) rfl fun g=> ?_))
 refine wN len at_ lo xs h _ x hS.2 hx (fun g x hx=> ?_) g
 refine Runs.seq (Runs.au aj mixed (r256.none.p19 len at_ lo xs h _ g) trivial (r256.none.ids19 _ _ _ _ _ _ _) rfl fun g=> ?_)
 refine Runs.seq (Runs.seq (Runs.au aj mixed (r256.none.p20 len at_ lo xs h _ _ g) trivial (r256.none.ids4 _ _ _ _ _ _ _ _) rfl fun g=> ?_))
 refine wM len at_ lo xs h _ x hx (fun g=> ?_) g
 refine Runs.seq (Runs.au aj mixed (r256.none.p28 len at_ lo xs h _ _ g) trivial (r256.none.ids5 _ _ _ _ _ _ _ _) rfl fun g=> ?_)
 refine wL len at_ lo xs h x _ (fun g=> ?_) g
 exact hp g
end
theorem wP (nb lo:Nat) (xs:List Int) (hl:xs.length=64*nb) (hs:nb≤2199023255600) (hb:∀y∈xs,Byt y)
  (hp:∀g,Post .normal (fill g 0 (r256.none.MH (64*nb) (64*nb))) (r256.none.eO xs lo (refH xs nb))) (g:Nat→SV):
  aF Tryd.prog Gs 0 (.block 0 (.loop r256.LL)) (fill g 0 (r256.none.MH (64*nb) (64*0))) (r256.none.eO xs lo (refH xs 0)) Post:=by
 refine Runs.block ?_
 refine Runs.dA (fun(i:Nat)=>r256.none.MH (64*nb) (64*i)) (fun i=>r256.none.eO xs lo (refH xs i)) (fun i=>i≤nb) (fun i=>nb-i) ?_ 0 (Nat.zero_le _) g
 intro i g hi
 rw[r256.LL_eq]
 by_cases hlt:i<nb
 ·refine Runs.seq (Runs.au aj mixed (r256.none.go (64*nb) (64*i) lo xs _ g) ⟨decide_eq_true (by omega),trivial⟩ (r256.none.idsH _ _ _ _ _) rfl fun g=> ?_)
  refine Runs.seq (wQ (64*nb) (64*i) lo xs _ hl (by omega) (by omega) hb (fun g=> ?_) g)
  exact Runs.au aj mixed (r256.none.p6 (64*nb) (64*i) lo xs _ g) ⟨i64n (by omega) (by omega),trivial⟩ (r256.none.idsH _ _ _ _ _) rfl fun g'=>⟨i+1,g',rfl,rfl,hlt,by omega⟩
 ·obtain rfl:i=nb:=by omega
  exact Runs.seq (Runs.au aj mixed (r256.none.stop (64*i) (64*i) lo xs _ g) ⟨decide_eq_false (by omega),trivial⟩ (r256.none.idsH _ _ _ _ _) rfl fun g=>hp g)
theorem r256_none_run (a:Option Addr):aF Tryd.prog Gs 0 r256.body (aK r256.fn [.o (.a (.v (.slice a 0 0)))]) [] (aH tys r256.fn (bJ (ay.enc (refB [])) .none)):=by
 obtain⟨z1,z2,z3⟩:=og ([]:List Int).length
 have hL:=sD [] 64 8
 rw[r256.ku]
 refine Runs.seq (Runs.au aj mixed (r256.none.a0 a) trivial (r256.none.idsN0 a) rfl fun g=> ?_)
 refine Runs.seq (Runs.au aj mixed (r256.none.a1 a g) trivial (r256.none.idsN1 a) rfl fun g=> ?_)
 refine Runs.seq (Runs.au aj mixed (r256.none.a2 a g) trivial (r256.none.idsN2 a) rfl fun g=> ?_)
 refine Runs.seq (Runs.au aj mixed (r256.none.a3 a g) trivial (r256.none.idsN3 _ _ _) rfl fun g=> ?_)
 refine Runs.seq (Runs.seq (Runs.au aj mixed (r256.none.a4 _ _ _ g) trivial (r256.none.idsH _ _ _ _ _) rfl fun g=> ?_))
 have hy0:([]:List Int).length≤140737488354000:=by first | (rw[hy];exact hn) | exact Nat.zero_le _
 have hnb:(bV [] 64 8).length=64*((bV [] 64 8).length/64):=by omega
 have hg:=wP (Post:=fun e t m=>match e with | .normal=>aF Tryd.prog Gs 0 r256.DD t m (aH tys r256.fn (bJ (ay.enc (refB [])) .none)) | .exit i=>aH tys r256.fn (bJ (ay.enc (refB [])) .none) (.exit i) t m | .ret=>aH tys r256.fn (bJ (ay.enc (refB [])) .none) .ret t m) ((bV [] 64 8).length/64) (bV [] 64 8).length (bV [] 64 8) hnb (by omega) (padR_byt (ys:=[]) (fun y hy=>by cases hy) 64 8) (fun g=>Runs.eB aj mixed (r256.none.d _ _ _ _ _ g) trivial (aH.ret (r256.none.res _ _ _ _ _ g) rfl)) g
 rw[←hnb] at hg
 exact hg
end
def vg:List aU→Option (SV × dH × Cst)
 | [.win .u8 ys n ty]=>some (ay.enc (refB ys),.none,[n≤140737488354000,∀y∈ys,Byt y])
 | [.val (.o (.a (.v (.slice _ 0 0))))]=>some (ay.enc (refB []),.none,[])
 | _=>none
noncomputable def r256_con:Con Tryd.prog Gs:=Con.parts aj 56 r256.fn Tryd.func56 (by kernel_rfl) (c:=r256.body) (by kernel_rfl) [.win .u8] vg
 (fun ps r e p h hp=>by
  unfold vg at h
  split at h<;>cases h
  ·exact⟨ay.ids _,fun b hb=>by simp only[bf,aU.blk,List.append_nil,List.mem_singleton] at hb;rw[hb]⟩
  ·exact⟨ay.ids _,fun b hb=>by cases hb⟩)
 (fun ps r e p cap h hp hi=>by
  unfold vg at h
  split at h<;>cases h
  ·exact r256_win_run _ _ _ _ hi.1.1 hi.1.2 hp.1 hp.2.1
  ·exact r256_none_run _)
theorem schW_congr {R R':Nat→Int} (h:∀j,j<64→R j=R' j):∀t,t<64→kC R t=kC R' t:=by
 have hS:Sched R' (kC R):=by
  refine⟨fun t ht=> ?_,(lI R).2⟩
  rw[←h _ (by omega),←h _ (by omega),←h _ (by omega),←h _ (by omega)]
  exact(lI R).1 t ht
 exact sched_unique hS (lI R')
theorem sV {h h' W:Nat→Int} (e:∀j,j<8→h j=h' j):∀t,∀j,j<8→rounds h W t j=rounds h' W t j
 | 0,j,hj=>e j hj
 | t+1,j,hj=>uY (sV e t) _ _ j hj
theorem sM {h h' R R':Nat→Int} (e:∀j,j<8→h j=h' j) (f:∀j,j<64→R j=R' j):∀j,j<8→lS h (kC R) j=lS h' (kC R') j:=fun j hj=>by
 unfold lS
 rw[e j hj,uX 64 (schW_congr f),sV e 64 j hj]
theorem absorb_block (S:Hs) (zs:List Int) (h0:0≤S.n) (hn:S.n%64=0) (hz:zs.length=64):∀j,j<8→(dQ S zs).h.at j=lS S.h.at (kC fun j=>zs.getD j 0) j:=fun j hj=>by
 rw[rJ zs S 0 h0 (by omega) (by omega) (by omega),if_pos (by omega)]
 show(E8.mk' (lS S.h.at (kC (B64.mk' (putF 0 zs S.r.at)).at))).at j=_
 rw[E8.jo _ j hj]
 refine sM (fun _ _=>rfl) (fun i hi=> ?_) j hj
 rw[B64.jo _ i hi,qP,if_pos ⟨by omega,by omega⟩]
 rfl
theorem vU (xs:List Int) (nb:Nat) (hl:xs.length=64*nb) (hs:nb≤2199023255600):∀i,i≤nb→∀j,j<8→(dQ S0 (xs.take (64*i))).h.at j=refH xs i j
 | 0,_,j,hj=>by
  rw[Nat.mul_zero,List.take_zero]
  rfl
 | i+1,hi,j,hj=>by
  have e:xs.take (64*(i+1))=xs.take (64*i)++(xs.drop (64*i)).take 64:=by
   rw[show 64*(i+1)=64*i+64 by omega,List.take_add]
  have hlen:((xs.drop (64*i)).take 64).length=64:=by rw[List.length_take,List.length_drop];omega
  have hn:(dQ S0 (xs.take (64*i))).n=64*(i:Int):=by
   rw[absorb_n _ _ (by decide) (by decide),List.length_take,dR]
   show(0+((min (64*i) xs.length:Nat):Int))%18446744073709551616=_
   omega
  rw[e,nS,absorb_block _ _ (by rw[hn];omega) (by rw[hn];omega) hlen j hj,refH]
  refine sM (fun j hj=>vU xs nb hl hs i (by omega) j hj) (fun j hj=> ?_) j hj
  simp only[List.getD,List.getElem?_take_of_lt hj,List.getElem?_drop]
theorem padV_eq (ys:List Int) (hs:ys.length≤140737488354000):padV (ys.length:Int) (padL (ys.length:Int))=[128]++(List.replicate (dM ys.length 64 8) 0++fM (lenV ys.length) 8):=by
 have hL:padL (ys.length:Int)=dM ys.length 64 8+1:=by
  unfold padL dM
  have h1:(ys.length:Int).tmod 64=(ys.length:Int)%64:=Int.tmod_eq_emod_of_nonneg (by omega)
  rw[h1,dR,dR,Int.tmod_eq_emod_of_nonneg (by omega)]
  omega
 obtain⟨z1,_,_⟩:=og ys.length
 rw[hL]
 unfold padV
 have h8:(app.sh8.map (bZ (IntKind.u64.wrap ((ys.length:Int)*8))))=fM (lenV ys.length) 8:=by
  unfold lenV
  rw[dR (ys.length:Int),Int.emod_eq_of_lt (by omega) (by omega)]
  kernel_rfl
 rw[h8,List.drop_zero,o9 _ _ _ (by rw[gI,List.length_replicate,jB];omega),o9 0 [128] _ (by rw[List.length_replicate];decide),jB]
 have e1:(List.replicate 72 (0:Int)).take 0++([128]++(List.replicate 72 0).drop (0+[(128:Int)].length))=[128]++List.replicate 71 0:=rfl
 rw[e1,Nat.zero_add,←List.append_assoc,List.take_left' (by simp only[List.length_append,List.length_take,List.length_singleton,List.length_replicate,jB];omega)]
 rw[←List.append_assoc]
 congr 1
 rw[show dM ys.length 64 8+1=[(128:Int)].length+dM ys.length 64 8 by simp only[List.length_singleton];omega,List.take_length_add_append,List.take_replicate]
 congr 2
 omega
theorem byteAt_u64 {x:Int} (h0:0≤x) (h1:x<4294967296) (s:Nat):bZ (IntKind.u64.wrap x) s=IntKind.u8.wrap (x.fdiv (2^s)):=by
 unfold bZ
 rw[dR,Int.emod_eq_of_lt h0 (by omega)]
theorem sumB_outR {e:E8} {f:Nat→Int} (h:∀j,j<8→e.at j=f j) (hr:∀j,j<8→0≤f j∧f j<4294967296):sumB e=outR f:=by
 have e0:e.b0=f 0:=h 0 (by omega)
 have e1:e.b1=f 1:=h 1 (by omega)
 have e2:e.b2=f 2:=h 2 (by omega)
 have e3:e.b3=f 3:=h 3 (by omega)
 have e4:e.b4=f 4:=h 4 (by omega)
 have e5:e.b5=f 5:=h 5 (by omega)
 have e6:e.b6=f 6:=h 6 (by omega)
 have e7:e.b7=f 7:=h 7 (by omega)
 have q:=fun j hj s=>byteAt_u64 (hr j hj).1 (hr j hj).2 s
 unfold sumB outR
 rw[e0,e1,e2,e3,e4,e5,e6,e7]
 simp only[q 0 (by omega),q 1 (by omega),q 2 (by omega),q 3 (by omega),q 4 (by omega),q 5 (by omega),q 6 (by omega),q 7 (by omega)]
theorem ref_eq (ys:List Int) (hs:ys.length≤140737488354000):finB (dQ S0 ys)=refB ys:=by
 have hn:(dQ S0 ys).n=(ys.length:Int):=by
  rw[absorb_n _ _ (by decide) (by decide),dR]
  show(0+(ys.length:Int))%18446744073709551616=_
  omega
 unfold finB refB
 rw[hn,←nS,padV_eq ys hs]
 have e:ys++([128]++(List.replicate (dM ys.length 64 8) 0++fM (lenV ys.length) 8))=bV ys 64 8:=rfl
 rw[e]
 have hl:=sD ys 64 8
 obtain⟨z1,z2,z3⟩:=og ys.length
 have hnb:(bV ys 64 8).length=64*((bV ys 64 8).length/64):=by omega
 have ht:(bV ys 64 8).take (64*((bV ys 64 8).length/64))=bV ys 64 8:=List.take_of_length_le (by omega)
 have h:=vU (bV ys 64 8) _ hnb (by omega) _ (Nat.le_refl _)
 rw[ht] at h
 refine sumB_outR h fun j hj=> ?_
 obtain⟨m,hm⟩:∃m,(bV ys 64 8).length/64=m+1:=⟨(bV ys 64 8).length/64-1,by omega⟩
 rw[hm,refH]
 unfold lS kJ
 rw[u32_wrap]
 omega
end Go.Proofs.YtdccehmekkcheaaDoor.S3
