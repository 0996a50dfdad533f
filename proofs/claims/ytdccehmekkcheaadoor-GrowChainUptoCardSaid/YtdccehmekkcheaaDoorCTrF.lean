/- Packages tree, beaconref11, beaconref07: common bits, first bits, the order: facts of the walks. -/
import Derived.Test.YtdccehmekkcheaaDoorCFo
import Derived.Test.YtdccehmekkcheaaDoorCTrA
set_option linter.unusedSimpArgs false
set_option linter.unusedVariables false
namespace Go.Proofs.YtdccehmekkcheaaDoor
open Go Go.Eng Go.RowKit
set_option maxRecDepth 100000
namespace tcom
noncomputable abbrev fn:=Tryd.f64
noncomputable def body:Code:=d9 fn
noncomputable def A1:Code:=cs1 (cs1 (bM 1 body))
noncomputable def L:Code:=cL (cB (cs2 (cs1 (bM 1 body))))
noncomputable def D:Code:=cs2 (bM 1 body)
noncomputable def Γ:Cons Tryd.prog GT:=[lz.con]
theorem dJ:bM 1 body= .seq (.seq A1 (.block 0 (.loop L))) D:=by kernel_rfl
def M0 (a:B32):List (Option SV):=aD 25 0 [(2,.o (.a (.ptr 0 0))),(3,.o (.a (.ptr 1 0)))]
def M1 (a:B32) (i:Int):List (Option SV):=aD 25 0 [(2,.o (.a (.ptr 0 0))),(3,.o (.a (.ptr 1 0))),(7,.o (.a (aG .i64 i)))]
def MZ (a:B32) (i:Int):List (Option SV):=aD 25 0 [(4,.o (.a (aG .i64 i)))]
section
variable (a b:B32)
def mem:List Blk:=[⟨true,24,.lit (ay.row a)⟩,⟨true,24,.lit (ay.row b)⟩]
theorem fO:oI (M0 a) (mem a b):=by delta oI;kernel_rfl
theorem dh (i:Int):oI (M1 a i) (mem a b):=by delta oI;kernel_rfl
theorem iM (i:Int):oI (MZ a i) (mem a b):=by delta oI;kernel_rfl
theorem s0:oX Γ 300 (eD 1 body) (aK fn [ay.enc a,ay.enc b]) [] [] .normal (M0 a) (mem a b) []:=by delta oX;kernel_rfl
theorem a1 (g:Nat→SV):oX Γ 300 A1 (fill g 0 (M0 a)) (mem a b) [] .normal (M1 a 0) (mem a b) []:=by delta oX;kernel_rfl
theorem stp (g:Nat→SV):fV (fun j=>jq (mem a b).length (M1 a ((j+1:Nat):Int)) (exec Γ tys 300 L ⟨fill g 0 (M1 a ((j:Nat):Int)),mem a b,[(16,[.n 0])]⟩)) 32=fU (fun j=>some (.normal,live (M1 a ((j+1:Nat):Int)),(M1 a ((j+1:Nat):Int)).length,mem a b,[bits .xor .u8 (a.at j) (b.at j)=0])) 32:=by kernel_rfl
theorem hit (x z r:Int) (g:Nat→SV):fV (fun j=>jq (mem a b).length (MZ a r) (exec Γ tys 300 L ⟨fill g 0 (M1 a ((j:Nat):Int)),mem a b,[(16,[.n x]),(18,[.b true]),(22,[.s (.o (.a (aG .i64 z)))]),(23,[.n r])]⟩)) 32=fU (fun j=>some (.ret,live (MZ a r),(MZ a r).length,mem a b,[bits .xor .u8 (a.at j) (b.at j)=x,(!(x==0))=true,Byte x,(aQ .i64).enc ((8-kE x.toNat:Nat):Int)=(aQ .i64).enc z,IntKind.i64.wrap (IntKind.i64.wrap (8*((j:Nat):Int))+z)=r])) 32:=by kernel_rfl
theorem out (g:Nat→SV):oX Γ 300 L (fill g 0 (M1 a 32)) (mem a b) [] (.exit 0) (M0 a) (mem a b) []:=by delta oX;kernel_rfl
theorem fin (g:Nat→SV):oX Γ 300 D (fill g 0 (M0 a)) (mem a b) [] .ret (MZ a 256) (mem a b) []:=by delta oX;kernel_rfl
theorem zr (i:Int) (g:Nat→SV):eRes tys (fill g 0 (MZ a i)) (fun k=>(mem a b)[k]?) fn.results.toList=some [.a (aG .i64 i)]:=by kernel_rfl
end
end tcom
namespace rcom
noncomputable abbrev fn:=Tryd.f62
noncomputable def body:Code:=d9 fn
noncomputable def L:Code:=cL (cB (cs1 (bM 2 body)))
noncomputable def D:Code:=cs2 (bM 2 body)
noncomputable def Γ:Cons Tryd.prog GT:=[rbit.con]
theorem dJ:bM 2 body= .seq (.block 0 (.loop L)) D:=by kernel_rfl
def M1 (a:B32) (n:Int) (i:Int):List (Option SV):=aD 23 0 [(2,.o (.a (aG .i64 n))),(3,.o (.a (.ptr 0 0))),(4,.o (.a (.ptr 1 0))),(7,.o (.a (aG .i64 i)))]
def MZ (a:B32) (i:Int):List (Option SV):=aD 23 0 [(6,.o (.a (aG .i64 i)))]
section
variable (a b:B32)
def mem:List Blk:=[⟨true,24,.lit (ay.row a)⟩,⟨true,24,.lit (ay.row b)⟩]
theorem dh (n:Int) (i:Int):oI (M1 a n i) (mem a b):=by delta oI;kernel_rfl
theorem iM (i:Int):oI (MZ a i) (mem a b):=by delta oI;kernel_rfl
theorem s0 (n:Int):oX Γ 300 (eD 2 body) (aK fn [ay.enc a,ay.enc b,.o (.a (aG .i64 n))]) [] [] .normal (M1 a n 0) (mem a b) []:=by delta oX;kernel_rfl
theorem stp (n:Int) (x y:Int) (g:Nat→SV):fV (fun j=>jq (mem a b ).length (M1 a n ((j+1:Nat):Int)) (exec Γ tys 300 L ⟨fill g 0 (M1 a n ((j:Nat):Int)),mem a b ,[(10,[.b true]),(14,[.s (.o (.a (aG .u8 x)))]),(17,[.s (.o (.a (aG .u8 y)))]),(18,[.b true])]⟩)) 256=fU (fun j=>some (.normal,live (M1 a n ((j+1:Nat):Int)),(M1 a n ((j+1:Nat):Int)).length,mem a b ,[decide (((j:Nat):Int)<n)=true,0≤((j:Nat):Int),((j:Nat):Int)<256,BOk a,(aQ .u8).enc (jS a ((j:Nat):Int).toNat)=(aQ .u8).enc x,0≤((j:Nat):Int),((j:Nat):Int)<256,BOk b,(aQ .u8).enc (jS b ((j:Nat):Int).toNat)=(aQ .u8).enc y,(x==y)=true])) 256:=by kernel_rfl
theorem dif (n:Int) (x y:Int) (g:Nat→SV):fV (fun j=>jq (mem a b ).length (M1 a n ((j:Nat):Int)) (exec Γ tys 300 L ⟨fill g 0 (M1 a n ((j:Nat):Int)),mem a b ,[(10,[.b true]),(14,[.s (.o (.a (aG .u8 x)))]),(17,[.s (.o (.a (aG .u8 y)))]),(18,[.b false])]⟩)) 256=fU (fun j=>some ((.exit 0),live (M1 a n ((j:Nat):Int)),(M1 a n ((j:Nat):Int)).length,mem a b ,[decide (((j:Nat):Int)<n)=true,0≤((j:Nat):Int),((j:Nat):Int)<256,BOk a,(aQ .u8).enc (jS a ((j:Nat):Int).toNat)=(aQ .u8).enc x,0≤((j:Nat):Int),((j:Nat):Int)<256,BOk b,(aQ .u8).enc (jS b ((j:Nat):Int).toNat)=(aQ .u8).enc y,(x==y)=false])) 256:=by kernel_rfl
theorem out (n:Int) (g:Nat→SV):fV (fun j=>jq (mem a b ).length (M1 a n ((j:Nat):Int)) (exec Γ tys 300 L ⟨fill g 0 (M1 a n ((j:Nat):Int)),mem a b ,[(10,[.b false])]⟩)) 257=fU (fun j=>some ((.exit 0),live (M1 a n ((j:Nat):Int)),(M1 a n ((j:Nat):Int)).length,mem a b ,[decide (((j:Nat):Int)<n)=false])) 257:=by kernel_rfl
theorem fin (n:Int) (i:Int) (g:Nat→SV):oX Γ 300 D (fill g 0 (M1 a n i)) (mem a b) [] .ret (MZ a i) (mem a b) []:=by delta oX;kernel_rfl
theorem zr (i:Int) (g:Nat→SV):eRes tys (fill g 0 (MZ a i)) (fun k=>(mem a b )[k]?) fn.results.toList=some [.a (aG .i64 i)]:=by kernel_rfl
end
end rcom
def setB (o:B32) (k:Nat) (v:Int):B32:=B32.mk' fun j=>bif Nat.beq j k then v else o.at j
namespace tfst
noncomputable abbrev fn:=Tryd.f63
noncomputable def body:Code:=d9 fn
noncomputable def A1:Code:=cs1 (cs1 (bM 1 body))
noncomputable def L:Code:=cL (cB (cs2 (cs1 (bM 1 body))))
noncomputable def D:Code:=cs2 (bM 1 body)
noncomputable def Γ:Cons Tryd.prog GT:=[]
theorem dJ:bM 1 body= .seq (.seq A1 (.block 0 (.loop L))) D:=by kernel_rfl
def M0 (n:Int):List (Option SV):=aD 32 0 [(1,.o (.a (aG .i64 n))),(2,.o (.a (.ptr 0 0))),(4,.o (.a (.ptr 1 0)))]
def M1 (n:Int) (i:Int):List (Option SV):=aD 32 0 [(1,.o (.a (aG .i64 n))),(2,.o (.a (.ptr 0 0))),(4,.o (.a (.ptr 1 0))),(7,.o (.a (aG .i64 i)))]
def MZ:List (Option SV):=aD 32 0 [(4,.o (.a (.ptr 1 0)))]
def mem (o z:B32):List Blk:=[⟨true,24,.lit (ay.row o)⟩,⟨true,24,.lit (ay.row z)⟩]
theorem fO (n:Int) (o z:B32):oI (M0 n) (mem o z):=by delta oI;kernel_rfl
theorem dh (n:Int) (i:Int) (o z:B32):oI (M1 n i) (mem o z):=by delta oI;kernel_rfl
theorem iM (o z:B32):oI (MZ) (mem o z):=by delta oI;kernel_rfl
theorem s0 (n:Int) (b:B32):oX Γ 300 (eD 1 body) (aK fn [ay.enc b,.o (.a (aG .i64 n))]) [] [] .normal (M0 n) (mem b zB) []:=by delta oX;kernel_rfl
section
variable (n:Int) (o:B32)
theorem a1 (g:Nat→SV):oX Γ 300 A1 (fill g 0 (M0 n )) (mem o zB) [] .normal (M1 n 0) (mem o zB) []:=by delta oX;kernel_rfl
theorem neg (l:Int) (g:Nat→SV):fV (fun j=>jq (mem (setB o j 0) zB).length (M1 n ((j+1:Nat):Int)) (exec Γ tys 300 L ⟨fill g 0 (M1 n ((j:Nat):Int)),mem o zB,[(13,[.n l]),(16,[.b true])]⟩)) 32=fU (fun j=>some (.normal,live (M1 n ((j+1:Nat):Int)),(M1 n ((j+1:Nat):Int)).length,mem (setB o j 0) zB,[IntKind.i64.wrap (n-IntKind.i64.wrap (8*((j:Nat):Int)))=l,decide (l≤0)=true])) 32:=by kernel_rfl
theorem mid (l v:Int) (g:Nat→SV):fV (fun j=>jq (mem (setB o (j/8) v) zB).length (M1 n ((j/8+1:Nat):Int)) (exec Γ tys 300 L ⟨fill g 0 (M1 n ((j/8:Nat):Int)),mem o zB,[(13,[.n l]),(16,[.b false]),(21,[.b true]),(26,[.n ((j%8:Nat):Int)]),(28,[.n v])]⟩)) 256=fU (fun j=>some (.normal,live (M1 n ((j/8+1:Nat):Int)),(M1 n ((j/8+1:Nat):Int)).length,mem (setB o (j/8) v) zB,[IntKind.i64.wrap (n-IntKind.i64.wrap (8*((j/8:Nat):Int)))=l,decide (l≤0)=false,decide (l<8)=true,IntKind.i64.wrap (8-l)=((j%8:Nat):Int),bits .and .u8 (o.at (j/8)) (IntKind.u8.wrap (255*2^(j%8)))=v])) 256:=by kernel_rfl
theorem pos (l:Int) (g:Nat→SV):fV (fun j=>jq (mem o zB).length (M1 n ((j+1:Nat):Int)) (exec Γ tys 300 L ⟨fill g 0 (M1 n ((j:Nat):Int)),mem o zB,[(13,[.n l]),(16,[.b false]),(21,[.b false])]⟩)) 32=fU (fun j=>some (.normal,live (M1 n ((j+1:Nat):Int)),(M1 n ((j+1:Nat):Int)).length,mem o zB,[IntKind.i64.wrap (n-IntKind.i64.wrap (8*((j:Nat):Int)))=l,decide (l≤0)=false,decide (l<8)=false])) 32:=by kernel_rfl
theorem out (g:Nat→SV):oX Γ 300 L (fill g 0 (M1 n 32)) (mem o zB) [] (.exit 0) (M0 n) (mem o zB) []:=by delta oX;kernel_rfl
theorem fin (g:Nat→SV):oX Γ 300 D (fill g 0 (M0 n )) (mem o zB) [] .ret (MZ) (mem o o) []:=by delta oX;kernel_rfl
end
theorem zr (o:B32) (g:Nat→SV):eRes tys (fill g 0 (MZ )) (fun k=>(mem o o)[k]?) fn.results.toList=some [.g (ay.row o)]:=by kernel_rfl
end tfst
namespace rfst
noncomputable abbrev fn:=Tryd.f27
noncomputable def body:Code:=d9 fn
noncomputable def A1:Code:=cs1 (cs1 (bM 2 body))
noncomputable def L:Code:=cL (cB (cs2 (cs1 (bM 2 body))))
noncomputable def D:Code:=cs2 (bM 2 body)
noncomputable def Γ:Cons Tryd.prog GT:=[rbit.con]
theorem dJ:bM 2 body= .seq (.seq A1 (.block 0 (.loop L))) D:=by kernel_rfl
def M0 (n:Int):List (Option SV):=aD 29 0 [(1,.o (.a (aG .i64 n))),(2,.o (.a (.ptr 0 0))),(4,.o (.a (.ptr 1 0))),(5,.o (.a (.ptr 2 0)))]
def M1 (n:Int) (i:Int):List (Option SV):=aD 29 0 [(1,.o (.a (aG .i64 n))),(2,.o (.a (.ptr 0 0))),(4,.o (.a (.ptr 1 0))),(5,.o (.a (.ptr 2 0))),(7,.o (.a (aG .i64 n))),(8,.o (.a (aG .i64 i)))]
def MZ:List (Option SV):=aD 29 0 [(4,.o (.a (.ptr 1 0)))]
section
variable (b:B32)
def mem (z o:B32):List Blk:=[⟨true,24,.lit (ay.row b)⟩,⟨true,24,.lit (ay.row z)⟩,⟨true,24,.lit (ay.row o)⟩]
theorem fO (n:Int) (z o:B32):oI (M0 n) (mem b z o):=by delta oI;kernel_rfl
theorem dh (n:Int) (i:Int) (z o:B32):oI (M1 n i) (mem b z o):=by delta oI;kernel_rfl
theorem iM (z o:B32):oI (MZ) (mem b z o):=by delta oI;kernel_rfl
theorem s0 (n:Int):oX Γ 300 (eD 2 body) (aK fn [ay.enc b,.o (.a (aG .i64 n))]) [] [] .normal (M0 n) (mem b zB zB) []:=by delta oX;kernel_rfl
theorem a1 (n:Int) (o:B32) (g:Nat→SV):oX Γ 300 A1 (fill g 0 (M0 n )) (mem b zB o) [] .normal (M1 n 0) (mem b zB o) []:=by delta oX;kernel_rfl
theorem stp (n:Int) (o:B32) (x v:Int) (g:Nat→SV):fV (fun j=>jq (mem b zB (setB o (j/8) v)).length (M1 n ((j+1:Nat):Int)) (exec Γ tys 300 L ⟨fill g 0 (M1 n ((j:Nat):Int)),mem b zB o,[(9,[.b true]),(19,[.s (.o (.a (aG .u8 x)))]),(25,[.n v])]⟩)) 256=fU (fun j=>some (.normal,live (M1 n ((j+1:Nat):Int)),(M1 n ((j+1:Nat):Int)).length,mem b zB (setB o (j/8) v),[decide (((j:Nat):Int)<n)=true,0≤((j:Nat):Int),((j:Nat):Int)<256,BOk b,(aQ .u8).enc (jS b ((j:Nat):Int).toNat)=(aQ .u8).enc x,bits .or .u8 (o.at (j/8)) (IntKind.u8.wrap (x*2^(7-j%8)))=v])) 256:=by kernel_rfl
theorem out (n:Int) (o:B32) (g:Nat→SV):fV (fun j=>jq (mem b zB o).length (M0 n ) (exec Γ tys 300 L ⟨fill g 0 (M1 n ((j:Nat):Int)),mem b zB o,[(9,[.b false])]⟩)) 257=fU (fun j=>some ((.exit 0),live (M0 n ),(M0 n ).length,mem b zB o,[decide (((j:Nat):Int)<n)=false])) 257:=by kernel_rfl
theorem fin (n:Int) (o:B32) (g:Nat→SV):oX Γ 300 D (fill g 0 (M0 n )) (mem b zB o) [] .ret (MZ) (mem b o o) []:=by delta oX;kernel_rfl
theorem zr (o:B32) (g:Nat→SV):eRes tys (fill g 0 (MZ )) (fun k=>(mem b o o)[k]?) fn.results.toList=some [.g (ay.row o)]:=by kernel_rfl
end
end rfst
namespace blw
noncomputable abbrev fn:=Tryd.f58
noncomputable def body:Code:=d9 fn
noncomputable def A1:Code:=cs1 (cs1 (bM 1 body))
noncomputable def L:Code:=cL (cB (cs2 (cs1 (bM 1 body))))
noncomputable def D:Code:=cs2 (bM 1 body)
noncomputable def Γ:Cons Tryd.prog GT:=[]
theorem dJ:bM 1 body= .seq (.seq A1 (.block 0 (.loop L))) D:=by kernel_rfl
def M0 (a:B32):List (Option SV):=aD 24 0 [(2,.o (.a (.ptr 0 0))),(3,.o (.a (.ptr 1 0)))]
def M1 (a:B32) (i:Int):List (Option SV):=aD 24 0 [(2,.o (.a (.ptr 0 0))),(3,.o (.a (.ptr 1 0))),(6,.o (.a (aG .i64 i)))]
def MZ (a:B32) (r:Bool):List (Option SV):=aD 24 0 [(4,.o (.a (fH r)))]
section
variable (a b:B32)
def mem:List Blk:=[⟨true,24,.lit (ay.row a)⟩,⟨true,24,.lit (ay.row b)⟩]
theorem fO:oI (M0 a) (mem a b):=by delta oI;kernel_rfl
theorem dh (i:Int):oI (M1 a i) (mem a b):=by delta oI;kernel_rfl
theorem iM (r:Bool):oI (MZ a r) (mem a b):=by delta oI;kernel_rfl
theorem s0:oX Γ 300 (eD 1 body) (aK fn [ay.enc a,ay.enc b]) [] [] .normal (M0 a) (mem a b) []:=by delta oX;kernel_rfl
theorem a1 (g:Nat→SV):oX Γ 300 A1 (fill g 0 (M0 a)) (mem a b) [] .normal (M1 a 0) (mem a b) []:=by delta oX;kernel_rfl
theorem stp (g:Nat→SV):fV (fun j=>jq (mem a b).length (M1 a ((j+1:Nat):Int)) (exec Γ tys 300 L ⟨fill g 0 (M1 a ((j:Nat):Int)),mem a b,[(15,[.b false])]⟩)) 32=fU (fun j=>some (.normal,live (M1 a ((j+1:Nat):Int)),(M1 a ((j+1:Nat):Int)).length,mem a b,[(a.at j !=b.at j)=false])) 32:=by kernel_rfl
theorem hit (r:Bool) (g:Nat→SV):fV (fun j=>jq (mem a b).length (MZ a r) (exec Γ tys 300 L ⟨fill g 0 (M1 a ((j:Nat):Int)),mem a b,[(15,[.b true]),(22,[.b r])]⟩)) 32=fU (fun j=>some (.ret,live (MZ a r),(MZ a r).length,mem a b,[(a.at j !=b.at j)=true,decide (a.at j<b.at j)=r])) 32:=by kernel_rfl
theorem out (g:Nat→SV):oX Γ 300 L (fill g 0 (M1 a 32)) (mem a b) [] (.exit 0) (M0 a) (mem a b) []:=by delta oX;kernel_rfl
theorem fin (g:Nat→SV):oX Γ 300 D (fill g 0 (M0 a)) (mem a b) [] .ret (MZ a false) (mem a b) []:=by delta oX;kernel_rfl
theorem zr (r:Bool) (g:Nat→SV):eRes tys (fill g 0 (MZ a r)) (fun k=>(mem a b)[k]?) fn.results.toList=some [.a (fH r)]:=by kernel_rfl
end
end blw
end Go.Proofs.YtdccehmekkcheaaDoor
