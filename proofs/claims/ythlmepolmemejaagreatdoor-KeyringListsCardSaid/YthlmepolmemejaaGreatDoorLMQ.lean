/- Package beaconref01: rotr64, k512; Sum512, piece by piece. -/
import Derived.Test.YthlmepolmemejaaGreatDoorLFo
import Derived.Test.YthlmepolmemejaaGreatDoorLMD
import Derived.Test.YthlmepolmemejaaGreatDoorLMK
set_option linter.unusedVariables false
namespace Go.Proofs.YthlmepolmemejaaGreatDoor
open Go Go.Eng Go.RowKit
set_option maxRecDepth 100000
theorem rk512_fn:ay Tryz.prog G2 116 [] (.o (.g (mY.map (aB .u64)))):=
 ay.aD (Γ:=([]:Cons Tryz.prog G2)) ah mixed Tryz.func116 (n:=100) (orc:=[]) (cs:=[]) (by kernel_rfl) trivial (iy _ _) rfl
noncomputable def rk512_con:Con Tryz.prog G2:=con0 116 Tryz.f116 Tryz.func116 (by kernel_rfl) (by kernel_rfl) (.o (.g (mY.map (aB .u64)))) [] (iy _ _) (fun _=>rk512_fn)
theorem or_comm64 (a b:Int):bits .or .u64 a b=bits .or .u64 b a:=by
 unfold bits
 simp only
 rw[BitVec.or_comm]
def rrots6:List Int:=[19,61,1,8,14,18,41,28,34,39]
theorem rrot64_fn (a k:Int) (h:k∈rrots6):ay Tryz.prog G2 117 [(av .u64).enc a,(av .u64).enc k] ((av .u64).enc (rotG a (-k))):=by
 unfold rrots6 at h
 unfold rotG
 rw[or_comm64]
 simp only[List.mem_cons,List.not_mem_nil,or_false] at h
 rcases h with rfl | rfl | rfl | rfl | rfl | rfl | rfl | rfl | rfl | rfl
 ·exact ay.aD (Γ:=([]:Cons Tryz.prog G2)) ah mixed Tryz.func117 (n:=100) (orc:=[]) (cs:=[]) (by kernel_rfl) trivial rfl rfl
 ·exact ay.aD (Γ:=([]:Cons Tryz.prog G2)) ah mixed Tryz.func117 (n:=100) (orc:=[]) (cs:=[]) (by kernel_rfl) trivial rfl rfl
 ·exact ay.aD (Γ:=([]:Cons Tryz.prog G2)) ah mixed Tryz.func117 (n:=100) (orc:=[]) (cs:=[]) (by kernel_rfl) trivial rfl rfl
 ·exact ay.aD (Γ:=([]:Cons Tryz.prog G2)) ah mixed Tryz.func117 (n:=100) (orc:=[]) (cs:=[]) (by kernel_rfl) trivial rfl rfl
 ·exact ay.aD (Γ:=([]:Cons Tryz.prog G2)) ah mixed Tryz.func117 (n:=100) (orc:=[]) (cs:=[]) (by kernel_rfl) trivial rfl rfl
 ·exact ay.aD (Γ:=([]:Cons Tryz.prog G2)) ah mixed Tryz.func117 (n:=100) (orc:=[]) (cs:=[]) (by kernel_rfl) trivial rfl rfl
 ·exact ay.aD (Γ:=([]:Cons Tryz.prog G2)) ah mixed Tryz.func117 (n:=100) (orc:=[]) (cs:=[]) (by kernel_rfl) trivial rfl rfl
 ·exact ay.aD (Γ:=([]:Cons Tryz.prog G2)) ah mixed Tryz.func117 (n:=100) (orc:=[]) (cs:=[]) (by kernel_rfl) trivial rfl rfl
 ·exact ay.aD (Γ:=([]:Cons Tryz.prog G2)) ah mixed Tryz.func117 (n:=100) (orc:=[]) (cs:=[]) (by kernel_rfl) trivial rfl rfl
 ·exact ay.aD (Γ:=([]:Cons Tryz.prog G2)) ah mixed Tryz.func117 (n:=100) (orc:=[]) (cs:=[]) (by kernel_rfl) trivial rfl rfl
noncomputable def rrot64_con:Con Tryz.prog G2:=Con.of 117 Tryz.f117 Tryz.func117 (by kernel_rfl) (by kernel_rfl) (fun
 | [x,y]=>match (av .u64).dec x,(av .u64).dec y with
  | some a,some k=>if rrots6.elem k then some ((av .u64).enc (rotG a (-k)),[]) else none
  | _,_=>none
 | _=>none) fun args r c h=>by
  split at h<;>try cases h
  split at h<;>try cases h
  rename_i ha hb
  split at h<;>cases h
  rename_i hk
  rw[←(av .u64).ok _ _ ha,←(av .u64).ok _ _ hb]
  exact⟨u64_ids _,fun _=>rrot64_fn _ _ (by simpa using hk)⟩
namespace r512
noncomputable abbrev fn:=Tryz.f65
noncomputable def body:Code:=bZ fn
noncomputable def A0:Code:=cs1 body
noncomputable def A1:Code:=cs1 (cs2 body)
noncomputable def A2:Code:=cs1 (cs2 (cs2 body))
noncomputable def A3:Code:=cs1 (cs2 (cs2 (cs2 body)))
noncomputable def T4:Code:=cs2 (cs2 (cs2 (cs2 body)))
noncomputable def A4:Code:=cs1 (cs1 T4)
noncomputable def LL:Code:=cL (cB (cs2 (cs1 T4)))
noncomputable def DD:Code:=cs2 T4
noncomputable def TT:Code:=cs1 LL
noncomputable def BB:Code:=cB (cs1 (cs2 LL))
noncomputable def A6:Code:=cs2 (cs2 LL)
noncomputable def A7:Code:=cs1 BB
noncomputable def B8:Code:=cs2 BB
noncomputable def A8:Code:=cs1 (cs1 B8)
noncomputable def L2:Code:=cL (cB (cs2 (cs1 B8)))
noncomputable def I2:Code:=cB (cs1 (bY 2 L2))
noncomputable def LI:Code:=cL (cB (bY 2 I2))
noncomputable def R16:Code:=cs2 (bY 2 L2)
noncomputable def B13:Code:=cs2 B8
noncomputable def A13:Code:=cs1 (cs1 B13)
noncomputable def L3:Code:=cL (cB (cs2 (cs1 B13)))
noncomputable def B19:Code:=cs2 B13
noncomputable def A19:Code:=cs1 B19
noncomputable def B20:Code:=cs2 B19
noncomputable def A20:Code:=cs1 (cs1 B20)
noncomputable def L4:Code:=cL (cB (cs2 (cs1 B20)))
noncomputable def B28:Code:=cs2 B20
noncomputable def A28:Code:=cs1 B28
noncomputable def L5:Code:=cL (cB (cs2 B28))
theorem dX:body= .seq A0 (.seq A1 (.seq A2 (.seq A3 (.seq (.seq A4 (.block 0 (.loop LL))) DD)))):=by kernel_rfl
theorem LL_eq:LL= .seq TT (.seq (.block 1 (.seq A7 (.seq (.seq A8 (.block 2 (.loop L2))) (.seq (.seq A13 (.block 6 (.loop L3))) (.seq A19 (.seq (.seq A20 (.block 8 (.loop L4))) (.seq A28 (.block 10 (.loop L5))))))))) A6):=by kernel_rfl
theorem L2_suf:bY 2 L2= .seq (.block 3 I2) R16:=by kernel_rfl
theorem I2_suf:bY 2 I2= .block 4 (.loop LI):=by kernel_rfl
noncomputable def Γ:Cons Tryz.prog G2:=[rk512_con,padd_con.lift gs_g2,rrot64_con]
namespace win
section
variable (len at_:Nat)
def MH:List (Option SV):=aJ 224 0 [(2,.o (.a (.ptr 1 0))),(3,.o (.a (.ptr 2 0))),(4,.o (.a (.ptr 3 0))),(5,.o (.a (.slg 4 len))),(6,(av .i64).enc ((at_:Nat):Int))]
def M7:List (Option SV):=aJ 224 0 [(2,.o (.a (.ptr 1 0))),(3,.o (.a (.ptr 2 0))),(4,.o (.a (.ptr 3 0))),(5,.o (.a (.slg 4 len))),(6,(av .i64).enc ((at_:Nat):Int)),(7,.o (.a (.ptr 5 0)))]
def M2 (t:Nat):List (Option SV):=aJ 224 0 [(2,.o (.a (.ptr 1 0))),(3,.o (.a (.ptr 2 0))),(4,.o (.a (.ptr 3 0))),(5,.o (.a (.slg 4 len))),(6,(av .i64).enc ((at_:Nat):Int)),(7,.o (.a (.ptr 5 0))),(32,(av .i64).enc ((t:Nat):Int))]
def MI (t i:Nat):List (Option SV):=aJ 224 0 [(2,.o (.a (.ptr 1 0))),(3,.o (.a (.ptr 2 0))),(4,.o (.a (.ptr 3 0))),(5,.o (.a (.slg 4 len))),(6,(av .i64).enc ((at_:Nat):Int)),(7,.o (.a (.ptr 5 0))),(8,(av .i64).enc ((t:Nat):Int)),(32,(av .i64).enc ((t:Nat):Int)),(35,(av .i64).enc ((i:Nat):Int))]
def M3 (t:Nat):List (Option SV):=aJ 224 0 [(2,.o (.a (.ptr 1 0))),(3,.o (.a (.ptr 2 0))),(4,.o (.a (.ptr 3 0))),(5,.o (.a (.slg 4 len))),(6,(av .i64).enc ((at_:Nat):Int)),(7,.o (.a (.ptr 5 0))),(10,(av .i64).enc ((t:Nat):Int))]
def M19:List (Option SV):=aJ 224 0 [(2,.o (.a (.ptr 1 0))),(3,.o (.a (.ptr 2 0))),(4,.o (.a (.ptr 3 0))),(5,.o (.a (.slg 4 len))),(6,(av .i64).enc ((at_:Nat):Int)),(7,.o (.a (.ptr 5 0))),(13,.o (.a (.ptr 6 0)))]
def M4 (t:Nat):List (Option SV):=aJ 224 0 [(2,.o (.a (.ptr 1 0))),(3,.o (.a (.ptr 2 0))),(4,.o (.a (.ptr 3 0))),(5,.o (.a (.slg 4 len))),(6,(av .i64).enc ((at_:Nat):Int)),(7,.o (.a (.ptr 5 0))),(13,.o (.a (.ptr 6 0))),(111,(av .i64).enc ((t:Nat):Int))]
def M5 (t:Nat):List (Option SV):=aJ 224 0 [(2,.o (.a (.ptr 1 0))),(3,.o (.a (.ptr 2 0))),(4,.o (.a (.ptr 3 0))),(5,.o (.a (.slg 4 len))),(6,(av .i64).enc ((at_:Nat):Int)),(13,.o (.a (.ptr 6 0))),(193,(av .i64).enc ((t:Nat):Int))]
end
section
variable (ys:List Int) (ty:TypeId)
def dP (xs:List Int) (lo:Nat) (h:Nat→Int):List Blk:=[⟨false,ty,.pre .u8 ys⟩,⟨true,37,.lit (zeroC.to.map (aB .u8))⟩,⟨true,128,.lit (rowD h)⟩,⟨true,134,.lit (mY.map (aB .u64))⟩,⟨true,5,.gro .u8 xs lo none⟩]
def dH (xs:List Int) (lo:Nat) (h x:Nat→Int):List Blk:=dP ys ty xs lo h++[⟨true,134,.lit (row80 x)⟩]
def fF (xs:List Int) (lo:Nat) (h x s:Nat→Int):List Blk:=dP ys ty xs lo h++[⟨true,134,.lit (row80 x)⟩,⟨true,128,.lit (rowD s)⟩]
theorem idsH (len at_ lo:Nat) (xs:List Int) (h:Nat→Int):oI (MH len at_) (dP ys ty xs lo h):=by delta oI;kernel_rfl
theorem ids7 (len at_ lo:Nat) (xs:List Int) (h:Nat→Int) (x:Nat→Int):oI (M7 len at_) (dH ys ty xs lo h x):=by delta oI;kernel_rfl
theorem fu (len at_ lo:Nat) (xs:List Int) (h:Nat→Int) (x:Nat→Int) (t:Nat):oI (M2 len at_ t) (dH ys ty xs lo h x):=by delta oI;kernel_rfl
theorem idsI (len at_ lo:Nat) (xs:List Int) (h:Nat→Int) (x:Nat→Int) (t i:Nat):oI (MI len at_ t i) (dH ys ty xs lo h x):=by delta oI;kernel_rfl
theorem ids3 (len at_ lo:Nat) (xs:List Int) (h:Nat→Int) (x:Nat→Int) (t:Nat):oI (M3 len at_ t) (dH ys ty xs lo h x):=by delta oI;kernel_rfl
theorem ids19 (len at_ lo:Nat) (xs:List Int) (h:Nat→Int) (x:Nat→Int) (s:Nat→Int):oI (M19 len at_) (fF ys ty xs lo h x s):=by delta oI;kernel_rfl
theorem ids4 (len at_ lo:Nat) (xs:List Int) (h:Nat→Int) (x:Nat→Int) (s:Nat→Int) (t:Nat):oI (M4 len at_ t) (fF ys ty xs lo h x s):=by delta oI;kernel_rfl
theorem ids5 (len at_ lo:Nat) (xs:List Int) (h:Nat→Int) (x:Nat→Int) (s:Nat→Int) (t:Nat):oI (M5 len at_ t) (fF ys ty xs lo h x s):=by delta oI;kernel_rfl
end
noncomputable def t0 (n c:Nat):List SV:=aH fn [.o (.a (.sld 0 0 0 n c))]
def N0 (n c:Nat):List (Option SV):=aJ 224 0 [(0,.o (.a (.sld 0 0 0 n c))),(2,.o (.a (.ptr 1 0)))]
def N1 (n c:Nat):List (Option SV):=aJ 224 0 [(0,.o (.a (.sld 0 0 0 n c))),(2,.o (.a (.ptr 1 0))),(3,.o (.a (.ptr 2 0)))]
def N2 (n c:Nat):List (Option SV):=aJ 224 0 [(0,.o (.a (.sld 0 0 0 n c))),(2,.o (.a (.ptr 1 0))),(3,.o (.a (.ptr 2 0))),(4,.o (.a (.ptr 3 0)))]
def N3 (len:Nat):List (Option SV):=aJ 224 0 [(2,.o (.a (.ptr 1 0))),(3,.o (.a (.ptr 2 0))),(4,.o (.a (.ptr 3 0))),(5,.o (.a (.slg 4 len)))]
section
variable (ys:List Int) (ty:TypeId)
def mm:List Blk:=[⟨false,ty,.pre .u8 ys⟩]
def m0:List Blk:=mm ys ty++[⟨true,37,.lit (zeroC.to.map (aB .u8))⟩]
def m1:List Blk:=m0 ys ty++[⟨true,128,.lit (rowD fZ.at)⟩]
def m2:List Blk:=m1 ys ty++[⟨true,134,.lit (mY.map (aB .u64))⟩]
theorem idsN0 (n c:Nat):oI (N0 n c) (m0 ys ty):=by delta oI;kernel_rfl
theorem idsN1 (n c:Nat):oI (N1 n c) (m1 ys ty):=by delta oI;kernel_rfl
theorem iG (n c:Nat):oI (N2 n c) (m2 ys ty):=by delta oI;kernel_rfl
theorem idsN3 (len lo:Nat) (xs:List Int):oI (N3 len) (dP ys ty xs lo fZ.at):=by delta oI;kernel_rfl
theorem a0 (n c:Nat):oX Γ 100 A0 (t0 n c) (mm ys ty) [] .normal (N0 n c) (m0 ys ty) []:=by delta oX;kernel_rfl
theorem a1 (n c:Nat) (g:Nat→SV):oX Γ 100 A1 (fill g 0 (N0 n c)) (m0 ys ty) [] .normal (N1 n c) (m1 ys ty) []:=by delta oX;kernel_rfl
theorem a2 (n c:Nat) (g:Nat→SV):oX Γ 100 A2 (fill g 0 (N1 n c)) (m1 ys ty) [] .normal (N2 n c) (m2 ys ty) []:=by delta oX;kernel_rfl
theorem a3 (n c:Nat) (g:Nat→SV):oX Γ 100 A3 (fill g 0 (N2 n c)) (m2 ys ty) [] .normal (N3 (bO ((ys.drop 0).take n) 128 16).length) (dP ys ty (bO ((ys.drop 0).take n) 128 16) (bO ((ys.drop 0).take n) 128 16).length fZ.at) [0+n≤ys.length,n≤c,n≤140737488354000]:=by delta oX;kernel_rfl
theorem a4 (len lo:Nat) (xs:List Int) (g:Nat→SV):oX Γ 100 A4 (fill g 0 (N3 len)) (dP ys ty xs lo fZ.at) [] .normal (MH len 0) (dP ys ty xs lo fZ.at) []:=by delta oX;kernel_rfl
theorem go (len at_ lo:Nat) (xs:List Int) (h:Nat→Int) (g:Nat→SV):oX Γ 100 TT (fill g 0 (MH len at_)) (dP ys ty xs lo h) [(29,[.b true])] .normal (MH len at_) (dP ys ty xs lo h) [decide ((at_:Int)<(len:Int))=true]:=by delta oX;kernel_rfl
theorem stop (len at_ lo:Nat) (xs:List Int) (h:Nat→Int) (g:Nat→SV):oX Γ 100 TT (fill g 0 (MH len at_)) (dP ys ty xs lo h) [(29,[.b false])] (.exit 0) (MH len at_) (dP ys ty xs lo h) [decide ((at_:Int)<(len:Int))=false]:=by delta oX;kernel_rfl
theorem p7 (len at_ lo:Nat) (xs:List Int) (h:Nat→Int) (g:Nat→SV):oX Γ 100 A7 (fill g 0 (MH len at_)) (dP ys ty xs lo h) [] .normal (M7 len at_) (dH ys ty xs lo h dblk.zero80) []:=by delta oX;kernel_rfl
theorem p8 (len at_ lo:Nat) (xs:List Int) (h:Nat→Int) (x:Nat→Int) (g:Nat→SV):oX Γ 100 A8 (fill g 0 (M7 len at_)) (dH ys ty xs lo h x) [] .normal (M2 len at_ 0) (dH ys ty xs lo h x) []:=by delta oX;kernel_rfl
theorem go2 (len at_ lo:Nat) (xs:List Int) (h:Nat→Int) (x:Nat→Int) (t:Nat) (g:Nat→SV):oX Γ 100 (dU 2 L2) (fill g 0 (M2 len at_ t)) (dH ys ty xs lo h x) [(33,[.b true])] .normal (M2 len at_ t) (dH ys ty xs lo h x) [decide ((t:Int)<16)=true]:=by delta oX;kernel_rfl
theorem end2 (len at_ lo:Nat) (xs:List Int) (h:Nat→Int) (x:Nat→Int) (t:Nat) (g:Nat→SV):oX Γ 100 L2 (fill g 0 (M2 len at_ t)) (dH ys ty xs lo h x) [(33,[.b false])] (.exit 2) (M7 len at_) (dH ys ty xs lo h x) [decide ((t:Int)<16)=false]:=by delta oX;kernel_rfl
theorem i2 (len at_ lo:Nat) (xs:List Int) (h:Nat→Int) (x:Nat→Int) (t:Nat) (g:Nat→SV):oX Γ 100 (dU 2 I2) (fill g 0 (M2 len at_ t)) (dH ys ty xs lo h x) [] .normal (MI len at_ t 0) (dH ys ty xs lo h x) []:=by delta oX;kernel_rfl
theorem stepI (len at_ lo:Nat) (xs:List Int) (h:Nat→Int) (x:Nat→Int) (t i:Nat) (a b v:Int) (g:Nat→SV):oX Γ 100 LI (fill g 0 (MI len at_ t i)) (dH ys ty xs lo h x) [(36,[.b true]),(40,[.dyn]),(41,[.n a]),(46,[.n ((8*t:Nat):Int)]),(47,[.n ((at_+8*t:Nat):Int)]),(49,[.n ((at_+8*t+i:Nat):Int)]),(51,[.n b]),(53,[.n v]),(54,[.dyn]),(55,[.n ((i+1:Nat):Int)])] .normal (MI len at_ t (i+1)) (dH ys ty xs lo h (iM (0+t) [v] x)) [decide ((i:Int)<8)=true,0≤(t:Int),(t:Int)<((80:Nat):Int),0+t<(aX x 0 80).length,(aX x 0 80).getD (0+t) 0=a,IntKind.i64.wrap (8*(t:Int))=((8*t:Nat):Int),IntKind.i64.wrap ((at_:Int)+((8*t:Nat):Int))=((at_+8*t:Nat):Int),IntKind.i64.wrap (((at_+8*t:Nat):Int)+(i:Int))=((at_+8*t+i:Nat):Int),0≤((at_+8*t+i:Nat):Int),((at_+8*t+i:Nat):Int)<(len:Int),0+(at_+8*t+i)<xs.length,xs.getD (0+(at_+8*t+i)) 0=b,kT a b=v,0≤(t:Int),(t:Int)<((80:Nat):Int),0+t+1≤(aX x 0 80).length,IntKind.i64.wrap ((i:Int)+1)=((i+1:Nat):Int)]:=by delta oX;kernel_rfl
theorem endI (len at_ lo:Nat) (xs:List Int) (h:Nat→Int) (x:Nat→Int) (t i:Nat) (g:Nat→SV):oX Γ 100 LI (fill g 0 (MI len at_ t i)) (dH ys ty xs lo h x) [(36,[.b false])] (.exit 4) (M2 len at_ t) (dH ys ty xs lo h x) [decide ((i:Int)<8)=false]:=by delta oX;kernel_rfl
theorem p16 (len at_ lo:Nat) (xs:List Int) (h:Nat→Int) (x:Nat→Int) (t:Nat) (g:Nat→SV):oX Γ 100 R16 (fill g 0 (M2 len at_ t)) (dH ys ty xs lo h x) [(56,[.n ((t+1:Nat):Int)])] .normal (M2 len at_ (t+1)) (dH ys ty xs lo h x) [IntKind.i64.wrap ((t:Int)+1)=((t+1:Nat):Int)]:=by delta oX;kernel_rfl
theorem p13 (len at_ lo:Nat) (xs:List Int) (h:Nat→Int) (x:Nat→Int) (g:Nat→SV):oX Γ 100 A13 (fill g 0 (M7 len at_)) (dH ys ty xs lo h x) [] .normal (M3 len at_ 16) (dH ys ty xs lo h x) []:=by delta oX;kernel_rfl
theorem step3 (len at_ lo:Nat) (xs:List Int) (h:Nat→Int) (x:Nat→Int) (t:Nat) (a b c d v:Int) (g:Nat→SV):oX Γ 100 L3 (fill g 0 (M3 len at_ (t+16))) (dH ys ty xs lo h x) [(58,[.b true]),(62,[.n ((t+14:Nat):Int)]),(63,[.dyn]),(64,[.n a]),(67,[.n ((t+14:Nat):Int)]),(68,[.dyn]),(69,[.n a]),(73,[.n ((t+14:Nat):Int)]),(74,[.dyn]),(75,[.n a]),(79,[.n ((t+1:Nat):Int)]),(80,[.dyn]),(81,[.n b]),(84,[.n ((t+1:Nat):Int)]),(85,[.dyn]),(86,[.n b]),(90,[.n ((t+1:Nat):Int)]),(91,[.dyn]),(92,[.n b]),(98,[.n ((t+9:Nat):Int)]),(99,[.dyn]),(100,[.n c]),(105,[.n ((t:Nat):Int)]),(106,[.dyn]),(107,[.n d]),(108,[.n v]),(109,[.dyn]),(60,[.n ((t+17:Nat):Int)])] .normal (M3 len at_ (t+17)) (dH ys ty xs lo h (iM (0+(t+16)) [v] x)) [decide (((t+16:Nat):Int)<80)=true,IntKind.i64.wrap (((t+16:Nat):Int)-2)=((t+14:Nat):Int),0≤((t+14:Nat):Int),((t+14:Nat):Int)<((80:Nat):Int),0+(t+14)<(aX x 0 80).length,(aX x 0 80).getD (0+(t+14)) 0=a,IntKind.i64.wrap (((t+16:Nat):Int)-2)=((t+14:Nat):Int),0≤((t+14:Nat):Int),((t+14:Nat):Int)<((80:Nat):Int),0+(t+14)<(aX x 0 80).length,(aX x 0 80).getD (0+(t+14)) 0=a,IntKind.i64.wrap (((t+16:Nat):Int)-2)=((t+14:Nat):Int),0≤((t+14:Nat):Int),((t+14:Nat):Int)<((80:Nat):Int),0+(t+14)<(aX x 0 80).length,(aX x 0 80).getD (0+(t+14)) 0=a,IntKind.i64.wrap (((t+16:Nat):Int)-15)=((t+1:Nat):Int),0≤((t+1:Nat):Int),((t+1:Nat):Int)<((80:Nat):Int),0+(t+1)<(aX x 0 80).length,(aX x 0 80).getD (0+(t+1)) 0=b,IntKind.i64.wrap (((t+16:Nat):Int)-15)=((t+1:Nat):Int),0≤((t+1:Nat):Int),((t+1:Nat):Int)<((80:Nat):Int),0+(t+1)<(aX x 0 80).length,(aX x 0 80).getD (0+(t+1)) 0=b,IntKind.i64.wrap (((t+16:Nat):Int)-15)=((t+1:Nat):Int),0≤((t+1:Nat):Int),((t+1:Nat):Int)<((80:Nat):Int),0+(t+1)<(aX x 0 80).length,(aX x 0 80).getD (0+(t+1)) 0=b,IntKind.i64.wrap (((t+16:Nat):Int)-7)=((t+9:Nat):Int),0≤((t+9:Nat):Int),((t+9:Nat):Int)<((80:Nat):Int),0+(t+9)<(aX x 0 80).length,(aX x 0 80).getD (0+(t+9)) 0=c,IntKind.i64.wrap (((t+16:Nat):Int)-16)=((t:Nat):Int),0≤((t:Nat):Int),((t:Nat):Int)<((80:Nat):Int),0+(t)<(aX x 0 80).length,(aX x 0 80).getD (0+(t)) 0=d,sched6 a b c d=v,0≤((t+16:Nat):Int),((t+16:Nat):Int)<((80:Nat):Int),0+(t+16)+1≤(aX x 0 80).length,IntKind.i64.wrap (((t+16:Nat):Int)+1)=((t+17:Nat):Int)]:=by delta oX;kernel_rfl
theorem end3 (len at_ lo:Nat) (xs:List Int) (h:Nat→Int) (x:Nat→Int) (t:Nat) (g:Nat→SV):oX Γ 100 L3 (fill g 0 (M3 len at_ t)) (dH ys ty xs lo h x) [(58,[.b false])] (.exit 6) (M7 len at_) (dH ys ty xs lo h x) [decide ((t:Int)<80)=false]:=by delta oX;kernel_rfl
theorem p19 (len at_ lo:Nat) (xs:List Int) (h:Nat→Int) (x:Nat→Int) (g:Nat→SV):oX Γ 100 A19 (fill g 0 (M7 len at_)) (dH ys ty xs lo h x) [] .normal (M19 len at_) (fF ys ty xs lo h x h) []:=by delta oX;kernel_rfl
theorem p20 (len at_ lo:Nat) (xs:List Int) (h:Nat→Int) (x:Nat→Int) (s:Nat→Int) (g:Nat→SV):oX Γ 100 A20 (fill g 0 (M19 len at_)) (fF ys ty xs lo h x s) [] .normal (M4 len at_ 0) (fF ys ty xs lo h x s) []:=by delta oX;kernel_rfl
theorem step4 (len at_ lo:Nat) (xs:List Int) (h:Nat→Int) (x:Nat→Int) (s:Nat→Int) (t:Nat) (k w:Int) (g:Nat→SV):oX Γ 100 L4 (fill g 0 (M4 len at_ t)) (fF ys ty xs lo h x s) [(112,[.b true]),(141,[.dyn]),(142,[.n k]),(145,[.dyn]),(146,[.n w]),(192,[.n ((t+1:Nat):Int)])] .normal (M4 len at_ (t+1)) (fF ys ty xs lo h x (vU s k w)) [decide ((t:Int)<80)=true,0≤(t:Int),(t:Int)<((80:Nat):Int),0+t<mY.length,mY.getD (0+t) 0=k,0≤((t:Nat):Int),((t:Nat):Int)<((80:Nat):Int),0+(t)<(aX x 0 80).length,(aX x 0 80).getD (0+(t)) 0=w,IntKind.i64.wrap ((t:Int)+1)=((t+1:Nat):Int)]:=by delta oX;kernel_rfl
theorem end4 (len at_ lo:Nat) (xs:List Int) (h:Nat→Int) (x:Nat→Int) (s:Nat→Int) (t:Nat) (g:Nat→SV):oX Γ 100 L4 (fill g 0 (M4 len at_ t)) (fF ys ty xs lo h x s) [(112,[.b false])] (.exit 8) (M19 len at_) (fF ys ty xs lo h x s) [decide ((t:Int)<80)=false]:=by delta oX;kernel_rfl
theorem p28 (len at_ lo:Nat) (xs:List Int) (h:Nat→Int) (x:Nat→Int) (s:Nat→Int) (g:Nat→SV):oX Γ 100 A28 (fill g 0 (M19 len at_)) (fF ys ty xs lo h x s) [] .normal (M5 len at_ 0) (fF ys ty xs lo (dblk.jw h s 0) x s) []:=by delta oX;kernel_rfl
theorem tab5 (len at_ lo:Nat) (xs:List Int) (h:Nat→Int) (x:Nat→Int) (s:Nat→Int) (g:Nat→SV):tabLH (fun t=>outX (fF ys ty xs lo (dblk.jw h s (t+1)) x s).length (M5 len at_ (t+1)) (exec Γ tys 100 L5 ⟨fill g 0 (M5 len at_ t),fF ys ty xs lo (dblk.jw h s t) x s,[]⟩)) 8=tabRH (fun t=>some (.normal,live (M5 len at_ (t+1)),(M5 len at_ (t+1)).length,fF ys ty xs lo (dblk.jw h s (t+1)) x s,[])) 8:=by kernel_rfl
theorem end5 (len at_ lo:Nat) (xs:List Int) (h:Nat→Int) (x:Nat→Int) (s:Nat→Int) (g:Nat→SV):oX Γ 100 L5 (fill g 0 (M5 len at_ 8)) (fF ys ty xs lo (dblk.jw h s 8) x s) [] (.exit 10) (MH len at_) (dP ys ty xs lo (fun i=>addD (h i) (s i))) []:=by delta oX;kernel_rfl
theorem p6 (len at_ lo:Nat) (xs:List Int) (h:Nat→Int) (g:Nat→SV):oX Γ 100 A6 (fill g 0 (MH len at_)) (dP ys ty xs lo h) [(31,[.n ((at_+128:Nat):Int)])] .normal (MH len (at_+128)) (dP ys ty xs lo h) [IntKind.i64.wrap ((at_:Int)+128)=((at_+128:Nat):Int)]:=by delta oX;kernel_rfl
noncomputable def fin (len at_ lo:Nat) (xs:List Int) (h:E8) (g:Nat→SV):St:=dz Γ tys 100 DD ⟨fill g 0 (MH len at_),dP ys ty xs lo h.at,[]⟩
theorem d (len at_ lo:Nat) (xs:List Int) (h:E8) (g:Nat→SV):exec Γ tys 100 DD ⟨fill g 0 (MH len at_),dP ys ty xs lo h.at,[]⟩=some (.ret,⟨(fin ys ty len at_ lo xs h g).tm,(fin ys ty len at_ lo xs h g).mem,[]⟩,[]):=by kernel_rfl
theorem res (len at_ lo:Nat) (xs:List Int) (h:E8) (g:Nat→SV):eRes tys (fin ys ty len at_ lo xs h g).tm (fun k=>(fin ys ty len at_ lo xs h g).mem[k]?) fn.results.toList=some [.g ((outD h).to.map (aB .u8))]:=by kernel_rfl
end
end win
end r512
theorem wordG_take (zs:List Int):∀i,i≤zs.length→gM zs i=cO (zs.take i)
 | 0,_=>by rw[List.take_zero];rfl
 | i+1,h=>by
  unfold cO
  rw[List.length_take,Nat.min_eq_left h]
  have:∀j,j≤i+1→gM zs j=gM (zs.take (i+1)) j:=by
   intro j
   induction j with
   | zero=>intro _;rfl
   | succ j ih=>
    intro hj
    rw[gM,gM,ih (by omega)]
    congr 1
    simp only[List.getD,List.getElem?_take,if_pos (show j<i+1 by omega)]
  exact this _ (Nat.le_refl _)
theorem comp_row (H:E8) (ys:List Int):rowD (comp6 H.at (sch6 ys))=rowE (jN H ys):=by
 rw[←rowD_E]
 unfold rowD jN
 simp only[E8.dY _ 0 (by omega),E8.dY _ 1 (by omega),E8.dY _ 2 (by omega),E8.dY _ 3 (by omega),E8.dY _ 4 (by omega),E8.dY _ 5 (by omega),E8.dY _ 6 (by omega),E8.dY _ 7 (by omega)]
section
variable {Post:Ex→List SV→List Blk→Prop}
section
variable (ys:List Int) (ty:TypeId) (len at_ lo:Nat) (xs:List Int)
theorem r512_win_inner (h x:Nat→Int) (t:Nat) (ht:t<16) (hl:xs.length=len) (ha:at_+128≤len) (hs:len≤140737488358400) (hx0:x t=0) (hp:∀g y,(∀j,j≠t→y j=x j)→y t=cO (((xs.drop at_).drop (8*t)).take 8)→Post .normal (fill g 0 (r512.win.M2 len at_ t)) (r512.win.dH ys ty xs lo h y)) (g:Nat→SV):
  aK Tryz.prog G2 1 (.block 4 (.loop r512.LI)) (fill g 0 (r512.win.MI len at_ t 0)) (r512.win.dH ys ty xs lo h x) Post:=by
 refine Runs.block ?_
 refine Runs.dS (fun(p:Nat × (Nat→Int))=>r512.win.MI len at_ t p.1) (fun p=>r512.win.dH ys ty xs lo h p.2) (fun p=>p.1≤8∧(∀j,j≠t→p.2 j=x j)∧p.2 t=gM ((xs.drop at_).drop (8*t)) p.1) (fun p=>8-p.1) ?_ (0,x) ⟨Nat.zero_le _,fun _ _=>rfl,hx0⟩ g
 rintro⟨i,y⟩ g ⟨hi,hy,hyt⟩
 simp only at hi hy hyt
 by_cases hlt:i<8
 ·refine Runs.au ah mixed (r512.win.stepI ys ty len at_ lo xs h y t i (y t) (xs.getD (at_+8*t+i) 0) (kT (y t) (xs.getD (at_+8*t+i) 0)) g)
   ⟨decide_eq_true (by omega),by omega,by omega,by rw[dD];omega,sM y t (by omega),lG (by omega) (by omega),lG (by omega) (by omega),lG (by omega) (by omega),by omega,by omega,by omega,by rw[Nat.zero_add],rfl,by omega,by omega,by rw[dD];omega,lG (by omega) (by omega),trivial⟩
   (r512.win.idsI ys ty _ _ _ _ _ _ _ _) rfl fun g'=>⟨(i+1,iM (0+t) [kT (y t) (xs.getD (at_+8*t+i) 0)] y),g',rfl,rfl,⟨hlt,fun j hj=> ?_,?_⟩,by simp only;omega⟩
  ·simp only
   rw[nG,if_neg (by omega)]
   exact hy j hj
  ·simp only
   rw[nG,if_pos (by omega),hyt,gM]
   congr 1
   simp only[List.getD,List.getElem?_drop]
   rw[show at_+(8*t+i)=at_+8*t+i by omega]
 ·obtain rfl:i=8:=by omega
  refine Runs.au ah mixed (r512.win.endI ys ty len at_ lo xs h y t 8 g) ⟨by decide,trivial⟩ (r512.win.fu ys ty _ _ _ _ _ _ _) rfl fun g'=>hp g' y hy ?_
  rw[hyt]
  exact wordG_take _ 8 (by simp only[List.length_drop];omega)
theorem r512_win_loop2 (h W x:Nat→Int) (hl:xs.length=len) (ha:at_+128≤len) (hs:len≤140737488358400) (hW:∀t,t<16→cO (((xs.drop at_).drop (8*t)).take 8)=W t) (hz:∀j,x j=0) (hp:∀g x,(∀j,j<16→x j=W j)→Post .normal (fill g 0 (r512.win.M7 len at_)) (r512.win.dH ys ty xs lo h x)) (g:Nat→SV):
  aK Tryz.prog G2 1 (.block 2 (.loop r512.L2)) (fill g 0 (r512.win.M2 len at_ 0)) (r512.win.dH ys ty xs lo h x) Post:=by
 refine Runs.block ?_
 refine Runs.dS (fun(p:Nat × (Nat→Int))=>r512.win.M2 len at_ p.1) (fun p=>r512.win.dH ys ty xs lo h p.2) (fun p=>p.1≤16∧(∀j,j<p.1→p.2 j=W j)∧∀j,p.1≤j→p.2 j=0) (fun p=>16-p.1) ?_ (0,x) ⟨Nat.zero_le _,fun j hj=>by simp only at hj;omega,fun j _=>hz j⟩ g
 rintro⟨t,x⟩ g ⟨ht,hx,hr⟩
 simp only at ht hx hr
 by_cases hlt:t<16
 ·refine Runs.bS ah mixed 2 (r512.win.go2 ys ty len at_ lo xs h x t g) ⟨decide_eq_true (by omega),trivial⟩ (r512.win.fu ys ty _ _ _ _ _ _ _) rfl fun g1=> ?_
  rw[r512.L2_suf]
  refine Runs.seq (Runs.block ?_)
  refine Runs.bS ah mixed 2 (r512.win.i2 ys ty len at_ lo xs h x t g1) trivial (r512.win.idsI ys ty _ _ _ _ _ _ _ _) rfl fun g2=> ?_
  rw[r512.I2_suf]
  refine r512_win_inner ys ty len at_ lo xs h x t hlt hl ha hs (hr t (Nat.le_refl _)) (fun g3 y hy hyt=> ?_) g2
  refine Runs.au ah mixed (r512.win.p16 ys ty len at_ lo xs h y t g3) ⟨lG (by omega) (by omega),trivial⟩ (r512.win.fu ys ty _ _ _ _ _ _ _) rfl fun g4=>⟨(t+1,y),g4,rfl,rfl,⟨hlt,fun j hj=> ?_,fun j hj=> ?_⟩,by simp only;omega⟩
  ·simp only at hj ⊢
   by_cases e:j=t
   ·rw[e,hyt];exact hW t hlt
   ·rw[hy j e];exact hx j (by omega)
  ·simp only at hj ⊢
   rw[hy j (by omega)];exact hr j (by omega)
 ·obtain rfl:t=16:=by omega
  exact Runs.au ah mixed (r512.win.end2 ys ty len at_ lo xs h x 16 g) ⟨by decide,trivial⟩ (r512.win.ids7 ys ty _ _ _ _ _ _) rfl fun g'=>hp g' x hx
theorem r512_win_loop3 (h W x : Nat → Int) (hS : ∀ t, t < 64 → sched6 (W (t + 14)) (W (t + 1)) (W (t + 9)) (W t) = W (t + 16)) (hx0 : ∀ j, j < 16 → x j = W j) (hp : ∀ g x, (∀ j, j < 80 → x j = W j) → Post .normal (fill g 0 (r512.win.M7 len at_)) (r512.win.dH ys ty xs lo h x)) (g : Nat → SV) :
    aK Tryz.prog G2 1 (.block 6 (.loop r512.L3)) (fill g 0 (r512.win.M3 len at_ 16)) (r512.win.dH ys ty xs lo h x) Post := by
  refine Runs.block ?_
  refine Runs.dS (fun (p : Nat × (Nat → Int)) => r512.win.M3 len at_ (p.1 + 16)) (fun p => r512.win.dH ys ty xs lo h p.2) (fun p => p.1 ≤ 64 ∧ ∀ j, j < p.1 + 16 → p.2 j = W j) (fun p => 64 - p.1) ?_ (0, x) ⟨Nat.zero_le _, fun j hj => hx0 j (by simpa using hj)⟩ g
  rintro ⟨t, x⟩ g ⟨ht, hx⟩
  simp only at ht hx
  by_cases hlt : t < 64
  · have w14 : IntKind.i64.wrap (((t + 16 : Nat) : Int) - 2) = ((t + 14 : Nat) : Int) := lG (by omega) (by omega)
    have w1 : IntKind.i64.wrap (((t + 16 : Nat) : Int) - 15) = ((t + 1 : Nat) : Int) := lG (by omega) (by omega)
    have w9 : IntKind.i64.wrap (((t + 16 : Nat) : Int) - 7) = ((t + 9 : Nat) : Int) := lG (by omega) (by omega)
    have w0 : IntKind.i64.wrap (((t + 16 : Nat) : Int) - 16) = ((t : Nat) : Int) := lG (by omega) (by omega)
    have ld : ∀ e : Nat, e < 80 → 0 ≤ (e : Int) ∧ (e : Int) < ((80 : Nat) : Int) ∧ 0 + e < (aX x 0 80).length := fun e he => ⟨by omega, by omega, by rw [dD]; omega⟩
    have r : ∀ e : Nat, e < t + 16 → (aX x 0 80).getD (0 + e) 0 = W e := fun e he => by rw [sM x e (by omega)]; exact hx e he
    have a1 := ld (t + 14) (by omega)
    have a2 := r (t + 14) (by omega)
    have b1 := ld (t + 1) (by omega)
    have b2 := r (t + 1) (by omega)
    have c1 := ld (t + 9) (by omega)
    have c2 := r (t + 9) (by omega)
    have d1 := ld t (by omega)
    have d2 := r t (by omega)
    refine Runs.au ah mixed (r512.win.step3 ys ty len at_ lo xs h x t (W (t + 14)) (W (t + 1)) (W (t + 9)) (W t) (W (t + 16)) g)
      ⟨decide_eq_true (by omega), w14, a1.1, a1.2.1, a1.2.2, a2, w14, a1.1, a1.2.1, a1.2.2, a2, w14, a1.1, a1.2.1, a1.2.2, a2, w1, b1.1, b1.2.1, b1.2.2, b2, w1, b1.1, b1.2.1, b1.2.2, b2, w1, b1.1, b1.2.1, b1.2.2, b2,
       w9, c1.1, c1.2.1, c1.2.2, c2, w0, d1.1, d1.2.1, d1.2.2, d2, hS t hlt, by omega, by omega, by rw [dD]; omega, lG (by omega) (by omega), trivial⟩ (r512.win.ids3 ys ty _ _ _ _ _ _ _) rfl fun g' => ⟨(t + 1, iM (0 + (t + 16)) [W (t + 16)] x), g', rfl, rfl, ⟨hlt, fun j hj => ?_⟩, by simp only; omega⟩
    simp only at hj ⊢
    rw [nG]
    by_cases e : j = 0 + (t + 16)
    · rw [if_pos e, e, Nat.zero_add]
    · rw [if_neg e]; exact hx j (by omega)
  · obtain rfl : t = 64 := by omega
    exact Runs.au ah mixed (r512.win.end3 ys ty len at_ lo xs h x 80 g) ⟨by decide, trivial⟩ (r512.win.ids7 ys ty _ _ _ _ _ _) rfl fun g' => hp g' x hx
theorem r512_win_loop4 (h W x:Nat→Int) (hx:∀j,j<80→x j=W j) (hp:∀g,Post .normal (fill g 0 (r512.win.M19 len at_)) (r512.win.fF ys ty xs lo h x (jW h W 80))) (g:Nat→SV):
  aK Tryz.prog G2 1 (.block 8 (.loop r512.L4)) (fill g 0 (r512.win.M4 len at_ 0)) (r512.win.fF ys ty xs lo h x h) Post:=by
 refine Runs.block ?_
 refine Runs.dS (fun(t:Nat)=>r512.win.M4 len at_ t) (fun t=>r512.win.fF ys ty xs lo h x (jW h W t)) (fun t=>t≤80) (fun t=>80-t) ?_ 0 (Nat.zero_le _) g
 intro t g ht
 by_cases hlt:t<80
 ·exact Runs.au ah mixed (r512.win.step4 ys ty len at_ lo xs h x (jW h W t) t (mY.getD t 0) (W t) g)
   ⟨decide_eq_true (by omega),by omega,by omega,by show 0+t<80;omega,by rw[Nat.zero_add],by omega,by omega,by rw[dD];omega,by rw[sM x t hlt];exact hx t hlt,lG (by omega) (by omega),trivial⟩ (r512.win.ids4 ys ty _ _ _ _ _ _ _ _) rfl fun g'=>⟨t+1,g',rfl,rfl,hlt,by omega⟩
 ·obtain rfl:t=80:=by omega
  exact Runs.au ah mixed (r512.win.end4 ys ty len at_ lo xs h x _ 80 g) ⟨by decide,trivial⟩ (r512.win.ids19 ys ty _ _ _ _ _ _ _) rfl hp
theorem r512_win_loop5 (h x s:Nat→Int) (hp:∀g,Post .normal (fill g 0 (r512.win.MH len at_)) (r512.win.dP ys ty xs lo (fun i=>addD (h i) (s i)))) (g:Nat→SV):
  aK Tryz.prog G2 1 (.block 10 (.loop r512.L5)) (fill g 0 (r512.win.M5 len at_ 0)) (r512.win.fF ys ty xs lo (dblk.jw h s 0) x s) Post:=by
 refine Runs.block ?_
 refine Runs.dS (fun(t:Nat)=>r512.win.M5 len at_ t) (fun t=>r512.win.fF ys ty xs lo (dblk.jw h s t) x s) (fun t=>t≤8) (fun t=>8-t) ?_ 0 (Nat.zero_le _) g
 intro t g ht
 by_cases hlt:t<8
 ·exact Runs.au ah mixed (vP (r512.win.tab5 ys ty len at_ lo xs h x s g) t hlt) trivial (r512.win.ids5 ys ty _ _ _ _ _ _ _ _) rfl fun g'=>⟨t+1,g',rfl,rfl,hlt,by omega⟩
 ·obtain rfl:t=8:=by omega
  exact Runs.au ah mixed (r512.win.end5 ys ty len at_ lo xs h x s g) trivial (r512.win.idsH ys ty _ _ _ _ _) rfl hp
theorem r512_win_block (H:E8) (hl:xs.length=len) (ha:at_+128≤len) (hs:len≤140737488358400) (hp:∀g,Post .normal (fill g 0 (r512.win.MH len at_)) (r512.win.dP ys ty xs lo (jN H (xs.drop at_)).at)) (g:Nat→SV):
  aK Tryz.prog G2 1 (.block 1 (.seq r512.A7 (.seq (.seq r512.A8 (.block 2 (.loop r512.L2))) (.seq (.seq r512.A13 (.block 6 (.loop r512.L3))) (.seq r512.A19 (.seq (.seq r512.A20 (.block 8 (.loop r512.L4))) (.seq r512.A28 (.block 10 (.loop r512.L5))))))))) (fill g 0 (r512.win.MH len at_)) (r512.win.dP ys ty xs lo H.at) Post:=by
 have hS:=sH (xs.drop at_)
 refine Runs.block ?_
 refine Runs.seq (Runs.au ah mixed (r512.win.p7 ys ty len at_ lo xs H.at g) trivial (r512.win.ids7 ys ty _ _ _ _ _ _) rfl fun g=> ?_)
 refine Runs.seq (Runs.seq (Runs.au ah mixed (r512.win.p8 ys ty len at_ lo xs H.at _ g) trivial (r512.win.fu ys ty _ _ _ _ _ _ _) rfl fun g=> ?_))
 refine r512_win_loop2 ys ty len at_ lo xs H.at (sch6 (xs.drop at_)) _ hl ha hs hS.1 (fun _=>rfl) (fun g x hx=> ?_) g
 refine Runs.seq (Runs.seq (Runs.au ah mixed (r512.win.p13 ys ty len at_ lo xs H.at _ g) trivial (r512.win.ids3 ys ty _ _ _ _ _ _ _) rfl fun g=> ?_))
 refine r512_win_loop3 ys ty len at_ lo xs H.at _ x hS.2 hx (fun g x hx=> ?_) g
 refine Runs.seq (Runs.au ah mixed (r512.win.p19 ys ty len at_ lo xs H.at _ g) trivial (r512.win.ids19 ys ty _ _ _ _ _ _ _) rfl fun g=> ?_)
 refine Runs.seq (Runs.seq (Runs.au ah mixed (r512.win.p20 ys ty len at_ lo xs H.at _ _ g) trivial (r512.win.ids4 ys ty _ _ _ _ _ _ _ _) rfl fun g=> ?_))
 refine r512_win_loop4 ys ty len at_ lo xs H.at _ x hx (fun g=> ?_) g
 refine Runs.seq (Runs.au ah mixed (r512.win.p28 ys ty len at_ lo xs H.at _ _ g) trivial (r512.win.ids5 ys ty _ _ _ _ _ _ _ _) rfl fun g=> ?_)
 refine r512_win_loop5 ys ty len at_ lo xs H.at x _ (fun g=> ?_) g
 have e:r512.win.dP ys ty xs lo (jN H (xs.drop at_)).at=r512.win.dP ys ty xs lo (fun i=>addD (H.at i) (jW H.at (sch6 (xs.drop at_)) 80 i)):=by
  have:=(comp_row H (xs.drop at_)).trans (rowD_E _).symm
  unfold r512.win.dP
  rw[←this]
  rfl
 rw[←e]
 exact hp g
end
theorem r512_win_great (ys:List Int) (ty:TypeId) (nb lo:Nat) (xs:List Int) (hl:xs.length=128*nb) (hs:nb≤1099511627800)
  (hp:∀g,Post .normal (fill g 0 (r512.win.MH (128*nb) (128*nb))) (r512.win.dP ys ty xs lo (gD fZ xs nb).at)) (g:Nat→SV):
  aK Tryz.prog G2 1 (.block 0 (.loop r512.LL)) (fill g 0 (r512.win.MH (128*nb) (128*0))) (r512.win.dP ys ty xs lo (gD fZ xs 0).at) Post:=by
 refine Runs.block ?_
 refine Runs.dS (fun(i:Nat)=>r512.win.MH (128*nb) (128*i)) (fun i=>r512.win.dP ys ty xs lo (gD fZ xs i).at) (fun i=>i≤nb) (fun i=>nb-i) ?_ 0 (Nat.zero_le _) g
 intro i g hi
 rw[r512.LL_eq]
 by_cases hlt:i<nb
 ·refine Runs.seq (Runs.au ah mixed (r512.win.go ys ty (128*nb) (128*i) lo xs _ g) ⟨decide_eq_true (by omega),trivial⟩ (r512.win.idsH ys ty _ _ _ _ _) rfl fun g=> ?_)
  refine Runs.seq (r512_win_block ys ty (128*nb) (128*i) lo xs _ hl (by omega) (by omega) (fun g=> ?_) g)
  exact Runs.au ah mixed (r512.win.p6 ys ty (128*nb) (128*i) lo xs _ g) ⟨lG (by omega) (by omega),trivial⟩ (r512.win.idsH ys ty _ _ _ _ _) rfl fun g'=>⟨i+1,g',rfl,rfl,hlt,by omega⟩
 ·obtain rfl:i=nb:=by omega
  exact Runs.seq (Runs.au ah mixed (r512.win.stop ys ty (128*i) (128*i) lo xs _ g) ⟨decide_eq_false (by omega),trivial⟩ (r512.win.idsH ys ty _ _ _ _ _) rfl fun g=>hp g)
theorem r512_win_run (ys:List Int) (n c:Nat) (ty:TypeId) (hy:ys.length=n) (hc:n≤c) (hn:n≤140737488354000):aK Tryz.prog G2 1 r512.body (aH r512.fn [.o (.a (.sld 0 0 0 n c))]) [⟨false,ty,.pre .u8 ys⟩] (aN tys r512.fn (bA (bU.enc (fP ys)) .none)):=by
 have hL:=uy ys 128 16
 have hy0:(ys:List Int).length≤140737488354000:=by first | (rw[hy];exact hn) | exact Nat.zero_le _
 have hz:eX (ys:List Int).length 128 16<128:=Nat.mod_lt _ (by decide)
 have hm:((ys:List Int).length+1+eX (ys:List Int).length 128 16+16)%128=0:=by unfold eX;omega
 have e:(ys.drop 0).take n=ys:=by rw[List.drop_zero,List.take_of_length_le (by omega)]
 rw[r512.dX]
 refine Runs.seq (Runs.au ah mixed (r512.win.a0 ys ty n c) trivial (r512.win.idsN0 ys ty n c) rfl fun g=> ?_)
 refine Runs.seq (Runs.au ah mixed (r512.win.a1 ys ty n c g) trivial (r512.win.idsN1 ys ty n c) rfl fun g=> ?_)
 refine Runs.seq (Runs.au ah mixed (r512.win.a2 ys ty n c g) trivial (r512.win.iG ys ty n c) rfl fun g=> ?_)
 refine Runs.seq (Runs.au ah mixed (r512.win.a3 ys ty n c g) ⟨by omega,hc,hn,trivial⟩ (r512.win.idsN3 ys ty _ _ _) rfl fun g=> ?_)
 show aK _ _ _ _ (fill g 0 (r512.win.N3 (bO ((ys.drop 0).take n) 128 16).length)) (r512.win.dP ys ty (bO ((ys.drop 0).take n) 128 16) (bO ((ys.drop 0).take n) 128 16).length fZ.at) _
 rw[e]
 refine Runs.seq (Runs.seq (Runs.au ah mixed (r512.win.a4 ys ty _ _ _ g) trivial (r512.win.idsH ys ty _ _ _ _ _) rfl fun g=> ?_))
 have hnb:(bO ys 128 16).length=128*((bO ys 128 16).length/128):=by omega
 have hg:=r512_win_great (Post:=fun e t m=>match e with | .normal=>aK Tryz.prog G2 1 r512.DD t m (aN tys r512.fn (bA (bU.enc (fP ys)) .none)) | .exit i=>aN tys r512.fn (bA (bU.enc (fP ys)) .none) (.exit i) t m | .ret=>aN tys r512.fn (bA (bU.enc (fP ys)) .none) .ret t m) ys ty ((bO ys 128 16).length/128) (bO ys 128 16).length (bO ys 128 16) hnb (by omega) (fun g=>Runs.aQ ah mixed (r512.win.d ys ty _ _ _ _ _ g) trivial (aN.ret (r512.win.res ys ty _ _ _ _ _ g) rfl)) g
 rw[←hnb] at hg
 exact hg
end
def zV:List aV→Option (SV × dh × Cst)
 | [.win .u8 ys n ty]=>some (bU.enc (fP ys),.none,[n≤140737488354000])
 | _=>none
noncomputable def r512_con:Con Tryz.prog G2:=Con.parts ah 65 r512.fn Tryz.func65 (by kernel_rfl) (c:=r512.body) (by kernel_rfl) [.win .u8] zV
 (fun ps r e p h hp=>by
  unfold zV at h
  split at h<;>cases h
  ·exact⟨bU.ids _,fun b hb=>by simp only[bG,aV.blk,List.append_nil,List.mem_singleton] at hb;rw[hb]⟩)
 (fun ps r e p cap h hp hi=>by
  unfold zV at h
  split at h<;>cases h
  ·exact r512_win_run _ _ _ _ hi.1.1 hi.1.2 hp.1)
end Go.Proofs.YthlmepolmemejaaGreatDoor
