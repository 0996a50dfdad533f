/- Package sha2: rotations of 64 bits; one block of SHA-512: its pieces. -/
import Derived.Test.YthlmepolmemejaaGreatDoorLFo
import Derived.Test.YthlmepolmemejaaGreatDoorLMH
import Derived.Test.YthlmepolmemejaaGreatDoorLMK
set_option linter.unusedVariables false
namespace Go.Proofs.YthlmepolmemejaaGreatDoor
open Go Go.Eng
set_option maxRecDepth 100000
def G2:Glob:=fun g=>match g with
 | 1=>some (orderL.map (aB .u64))
 | 0=>some (mY.map (aB .u64))
 | _=>none
theorem gs_g2:∀g cs,Gs g=some cs→G2 g=some cs:=by
 intro g cs h
 unfold Gs at h
 split at h<;>cases h
 rfl
def rotL6 (n:Int):Nat:=(n%64).toNat
def rotG (a k:Int):Int:=bits .or .u64 (IntKind.u64.wrap (a*2^rotL6 k)) (a.fdiv (2^(64-rotL6 k)))
def rots6:List Int:=[-19,-61,-1,-8,-14,-18,-41,-28,-34,-39]
theorem rot64_fn (a k:Int) (h:k∈rots6):ay Tryz.prog G2 139 [(av .u64).enc a,(av .i64).enc k] ((av .u64).enc (rotG a k)):=by
 unfold rots6 at h
 simp only[List.mem_cons,List.not_mem_nil,or_false] at h
 rcases h with rfl | rfl | rfl | rfl | rfl | rfl | rfl | rfl | rfl | rfl
 ·exact ay.aD (Γ:=([]:Cons Tryz.prog G2)) ah mixed Tryz.func139 (n:=100) (orc:=[]) (cs:=[]) (by kernel_rfl) trivial rfl rfl
 ·exact ay.aD (Γ:=([]:Cons Tryz.prog G2)) ah mixed Tryz.func139 (n:=100) (orc:=[]) (cs:=[]) (by kernel_rfl) trivial rfl rfl
 ·exact ay.aD (Γ:=([]:Cons Tryz.prog G2)) ah mixed Tryz.func139 (n:=100) (orc:=[]) (cs:=[]) (by kernel_rfl) trivial rfl rfl
 ·exact ay.aD (Γ:=([]:Cons Tryz.prog G2)) ah mixed Tryz.func139 (n:=100) (orc:=[]) (cs:=[]) (by kernel_rfl) trivial rfl rfl
 ·exact ay.aD (Γ:=([]:Cons Tryz.prog G2)) ah mixed Tryz.func139 (n:=100) (orc:=[]) (cs:=[]) (by kernel_rfl) trivial rfl rfl
 ·exact ay.aD (Γ:=([]:Cons Tryz.prog G2)) ah mixed Tryz.func139 (n:=100) (orc:=[]) (cs:=[]) (by kernel_rfl) trivial rfl rfl
 ·exact ay.aD (Γ:=([]:Cons Tryz.prog G2)) ah mixed Tryz.func139 (n:=100) (orc:=[]) (cs:=[]) (by kernel_rfl) trivial rfl rfl
 ·exact ay.aD (Γ:=([]:Cons Tryz.prog G2)) ah mixed Tryz.func139 (n:=100) (orc:=[]) (cs:=[]) (by kernel_rfl) trivial rfl rfl
 ·exact ay.aD (Γ:=([]:Cons Tryz.prog G2)) ah mixed Tryz.func139 (n:=100) (orc:=[]) (cs:=[]) (by kernel_rfl) trivial rfl rfl
 ·exact ay.aD (Γ:=([]:Cons Tryz.prog G2)) ah mixed Tryz.func139 (n:=100) (orc:=[]) (cs:=[]) (by kernel_rfl) trivial rfl rfl
theorem u64_ids (n:Int):((av .u64).enc n).ids=[]:=rfl
noncomputable def rot64_con:Con Tryz.prog G2:=Con.of 139 Tryz.f139 Tryz.func139 (by kernel_rfl) (by kernel_rfl) (fun
 | [x,y]=>match (av .u64).dec x,(av .i64).dec y with
  | some a,some k=>if rots6.elem k then some ((av .u64).enc (rotG a k),[]) else none
  | _,_=>none
 | _=>none) fun args r c h=>by
  split at h<;>try cases h
  split at h<;>try cases h
  rename_i ha hb
  split at h<;>cases h
  rename_i hk
  rw[←(av .u64).ok _ _ ha,←(av .i64).ok _ _ hb]
  exact⟨u64_ids _,fun _=>rot64_fn _ _ (by simpa using hk)⟩
def addD (a b:Int):Int:=IntKind.u64.wrap (a+b)
def xorD (a b:Int):Int:=bits .xor .u64 a b
def andD (a b:Int):Int:=bits .and .u64 a b
def sched6 (x y v7 v16:Int):Int:=addD (addD (addD (xorD (xorD (rotG x (-19)) (rotG x (-61))) (x.fdiv (2^6))) v7) (xorD (xorD (rotG y (-1)) (rotG y (-8))) (y.fdiv (2^7)))) v16
def t1G (s:Nat→Int) (k w:Int):Int:=addD (addD (addD (addD (s 7) (xorD (xorD (rotG (s 4) (-14)) (rotG (s 4) (-18))) (rotG (s 4) (-41)))) (xorD (andD (s 4) (s 5)) (andD (bits .xor .u64 18446744073709551615 (s 4)) (s 6)))) k) w
def t2G (s:Nat→Int):Int:=addD (xorD (xorD (rotG (s 0) (-28)) (rotG (s 0) (-34))) (rotG (s 0) (-39))) (xorD (xorD (andD (s 0) (s 1)) (andD (s 0) (s 2))) (andD (s 1) (s 2)))
def vU (s:Nat→Int) (k w:Int):Nat→Int
 | 0=>addD (t1G s k w) (t2G s)
 | 1=>s 0
 | 2=>s 1
 | 3=>s 2
 | 4=>addD (s 3) (t1G s k w)
 | 5=>s 4
 | 6=>s 5
 | _=>s 6
def rowD (h:Nat→Int):List Atom:=[u64 (h 0),u64 (h 1),u64 (h 2),u64 (h 3),u64 (h 4),u64 (h 5),u64 (h 6),u64 (h 7)]
def row80 (x:Nat→Int):List Atom:=[u64 (x 0),u64 (x 1),u64 (x 2),u64 (x 3),u64 (x 4),u64 (x 5),u64 (x 6),u64 (x 7),u64 (x 8),u64 (x 9),u64 (x 10),u64 (x 11),u64 (x 12),u64 (x 13),u64 (x 14),u64 (x 15),u64 (x 16),u64 (x 17),u64 (x 18),u64 (x 19),u64 (x 20),u64 (x 21),u64 (x 22),u64 (x 23),u64 (x 24),u64 (x 25),u64 (x 26),u64 (x 27),u64 (x 28),u64 (x 29),u64 (x 30),u64 (x 31),u64 (x 32),u64 (x 33),u64 (x 34),u64 (x 35),u64 (x 36),u64 (x 37),u64 (x 38),u64 (x 39),u64 (x 40),u64 (x 41),u64 (x 42),u64 (x 43),u64 (x 44),u64 (x 45),u64 (x 46),u64 (x 47),u64 (x 48),u64 (x 49),u64 (x 50),u64 (x 51),u64 (x 52),u64 (x 53),u64 (x 54),u64 (x 55),u64 (x 56),u64 (x 57),u64 (x 58),u64 (x 59),u64 (x 60),u64 (x 61),u64 (x 62),u64 (x 63),u64 (x 64),u64 (x 65),u64 (x 66),u64 (x 67),u64 (x 68),u64 (x 69),u64 (x 70),u64 (x 71),u64 (x 72),u64 (x 73),u64 (x 74),u64 (x 75),u64 (x 76),u64 (x 77),u64 (x 78),u64 (x 79)]
namespace dblk
noncomputable abbrev fn:=Tryz.f111
noncomputable def body:Code:=bZ fn
noncomputable def A0:Code:=cs1 body
noncomputable def P1:Code:=cs1 (cs2 body)
noncomputable def A1:Code:=cs1 P1
noncomputable def L1:Code:=cL (cB (cs2 P1))
noncomputable def Q1:Code:=cs2 (cs2 body)
noncomputable def A6:Code:=cs1 (cs1 Q1)
noncomputable def L2:Code:=cL (cB (cs2 (cs1 Q1)))
noncomputable def Q2:Code:=cs2 Q1
noncomputable def A13:Code:=cs1 Q2
noncomputable def Q3:Code:=cs2 Q2
noncomputable def A14:Code:=cs1 (cs1 Q3)
noncomputable def L3:Code:=cL (cB (cs2 (cs1 Q3)))
noncomputable def A23:Code:=cs1 (cs2 Q3)
noncomputable def L4:Code:=cL (cB (cs2 (cs2 Q3)))
theorem dX:body= .seq A0 (.seq (.seq A1 (.block 0 (.loop L1))) (.seq (.seq A6 (.block 2 (.loop L2))) (.seq A13 (.seq (.seq A14 (.block 4 (.loop L3))) (.seq A23 (.block 6 (.loop L4))))))):=by kernel_rfl
noncomputable def Γ:Cons Tryz.prog G2:=[zJ.lift gs_g2,rot64_con]
def mem (h:Nat→Int) (ys:List Int) (ty:TypeId) (x:Nat→Int):List Blk:=[⟨true,129,rowD h⟩,⟨false,ty,.pre .u8 ys⟩,⟨true,134,row80 x⟩]
def M0 (n c:Nat):List (Option SV):=aJ 203 0 [(0,.o (.a (.ptr 0 0))),(1,.o (.a (.sld 1 0 0 n c))),(4,.o (.a (.ptr 2 0)))]
def M1 (n c:Nat) (t:Nat):List (Option SV):=aJ 203 0 [(0,.o (.a (.ptr 0 0))),(1,.o (.a (.sld 1 0 0 n c))),(4,.o (.a (.ptr 2 0))),(26,(av .i64).enc ((t:Nat):Int))]
def M2 (t:Nat):List (Option SV):=aJ 203 0 [(0,.o (.a (.ptr 0 0))),(4,.o (.a (.ptr 2 0))),(6,(av .i64).enc ((t:Nat):Int))]
def Mb:List (Option SV):=aJ 203 0 [(0,.o (.a (.ptr 0 0))),(4,.o (.a (.ptr 2 0)))]
def M3 (s:Nat→Int) (t:Nat):List (Option SV):=aJ 203 0 [(0,.o (.a (.ptr 0 0))),(4,.o (.a (.ptr 2 0))),(11,(av .u64).enc (s 0)),(12,(av .u64).enc (s 1)),(13,(av .u64).enc (s 2)),(14,(av .u64).enc (s 3)),(15,(av .u64).enc (s 4)),(16,(av .u64).enc (s 5)),(17,(av .u64).enc (s 6)),(18,(av .u64).enc (s 7)),(115,(av .i64).enc ((t:Nat):Int))]
def M13 (s:Nat→Int):List (Option SV):=aJ 203 0 [(0,.o (.a (.ptr 0 0))),(4,.o (.a (.ptr 2 0))),(11,(av .u64).enc (s 0)),(12,(av .u64).enc (s 1)),(13,(av .u64).enc (s 2)),(14,(av .u64).enc (s 3)),(15,(av .u64).enc (s 4)),(16,(av .u64).enc (s 5)),(17,(av .u64).enc (s 6)),(18,(av .u64).enc (s 7))]
def jw (h s:Nat→Int) (t i:Nat):Int:=cond (Nat.blt i t) (addD (h i) (s i)) (h i)
def M4 (s:Nat→Int) (t:Nat):List (Option SV):=aJ 203 0 [(0,.o (.a (.ptr 0 0))),(188,.o (.g [u64 (s 0),u64 (s 1),u64 (s 2),u64 (s 3),u64 (s 4),u64 (s 5),u64 (s 6),u64 (s 7)])),(189,(av .i64).enc ((t:Nat):Int))]
def zero80 (j:Nat):Int:=0
section
variable (h:Nat→Int) (ys:List Int)
theorem jy (n c:Nat) (ty:TypeId) (x:Nat→Int):oI (M0 n c) (mem h ys ty x):=by delta oI;kernel_rfl
theorem eT (n c:Nat) (ty:TypeId) (x:Nat→Int) (t:Nat):oI (M1 n c t) (mem h ys ty x):=by delta oI;kernel_rfl
theorem fu (ty:TypeId) (x:Nat→Int) (t:Nat):oI (M2 t) (mem h ys ty x):=by delta oI;kernel_rfl
theorem idsb (ty:TypeId) (x:Nat→Int):oI Mb (mem h ys ty x):=by delta oI;kernel_rfl
theorem ids3 (ty:TypeId) (x:Nat→Int) (s:Nat→Int) (t:Nat):oI (M3 s t) (mem h ys ty x):=by delta oI;kernel_rfl
theorem ids13 (ty:TypeId) (x:Nat→Int) (s:Nat→Int):oI (M13 s) (mem h ys ty x):=by delta oI;kernel_rfl
theorem ids4 (ty:TypeId) (x:Nat→Int) (s:Nat→Int) (t:Nat):oI (M4 s t) (mem (jw h s t) ys ty x):=by delta oI;kernel_rfl
end
noncomputable def t0 (n c:Nat):List SV:=aH fn [.o (.a (.ptr 0 0)),.o (.a (.sld 1 0 0 n c))]
section
variable (h:Nat→Int) (ys:List Int)
theorem pre0 (n c:Nat) (ty:TypeId):oX Γ 100 A0 (t0 n c) [⟨true,129,rowD h⟩,⟨false,ty,.pre .u8 ys⟩] [] .normal (M0 n c) (mem h ys ty zero80) []:=by delta oX;kernel_rfl
theorem pre1 (n c:Nat) (ty:TypeId) (x:Nat→Int) (g:Nat→SV):oX Γ 100 A1 (fill g 0 (M0 n c)) (mem h ys ty x) [] .normal (M1 n c 0) (mem h ys ty x) []:=by delta oX;kernel_rfl
theorem step1 (n c:Nat) (ty:TypeId) (x:Nat→Int) (t:Nat) (v:Int) (g:Nat→SV):oX Γ 100 L1 (fill g 0 (M1 n c t)) (mem h ys ty x) [(27,[.b true]),(32,[.n ((8*t:Nat):Int)]),(35,[.n ((8*t+8:Nat):Int)]),(36,[.ds (.o (.a (.sld 1 0 (8*t) 8 (c-8*t))))]),(37,[.n v]),(38,[.dyn]),(39,[.n ((t+1:Nat):Int)])] .normal (M1 n c (t+1)) (mem h ys ty (iM (0+t) [v] x)) [decide ((t:Int)<16)=true,IntKind.i64.wrap (8*(t:Int))=((8*t:Nat):Int),IntKind.i64.wrap (IntKind.i64.wrap (8*(t:Int))+8)=((8*t+8:Nat):Int),0≤((8*t:Nat):Int),((8*t:Nat):Int)≤((8*t+8:Nat):Int),((8*t+8:Nat):Int)≤(c:Int),SV.o (.a (.sld 1 0 (advO c (8*t) 0) (8*t+8-8*t) (c-8*t)))=(.o (.a (.sld 1 0 (8*t) 8 (c-8*t)))),8*t+8≤ys.length,(((ys.drop (8*t)).take 8).length:Int)<9223372036854775807,cO ((ys.drop (8*t)).take 8)=v,0≤(t:Int),(t:Int)<((80:Nat):Int),0+t+1≤(aX x 0 80).length,IntKind.i64.wrap ((t:Int)+1)=((t+1:Nat):Int)]:=by delta oX;kernel_rfl
theorem end1 (n c:Nat) (ty:TypeId) (x:Nat→Int) (t:Nat) (g:Nat→SV):oX Γ 100 L1 (fill g 0 (M1 n c t)) (mem h ys ty x) [(27,[.b false])] (.exit 0) Mb (mem h ys ty x) [decide ((t:Int)<16)=false]:=by delta oX;kernel_rfl
theorem pre2 (ty:TypeId) (x:Nat→Int) (g:Nat→SV):oX Γ 100 A6 (fill g 0 (Mb)) (mem h ys ty x) [] .normal (M2 16) (mem h ys ty x) []:=by delta oX;kernel_rfl
theorem step2 (n:Nat) (ty:TypeId) (x:Nat→Int) (t:Nat) (a b e d v:Int) (g:Nat→SV):oX Γ 100 L2 (fill g 0 (M2 (t+16))) (mem h ys ty x) [(41,[.b true]),(45,[.n ((t+14:Nat):Int)]),(46,[.dyn]),(47,[.n a]),(49,[.n ((t+1:Nat):Int)]),(50,[.dyn]),(51,[.n b]),(71,[.n ((t+9:Nat):Int)]),(72,[.dyn]),(73,[.n e]),(78,[.n ((t:Nat):Int)]),(79,[.dyn]),(80,[.n d]),(81,[.n v]),(82,[.dyn]),(43,[.n ((t+17:Nat):Int)])] .normal (M2 (t+17)) (mem h ys ty (iM (0+(t+16)) [v] x)) [decide (((t+16:Nat):Int)<80)=true,IntKind.i64.wrap (((t+16:Nat):Int)-2)=((t+14:Nat):Int),0≤((t+14:Nat):Int),((t+14:Nat):Int)<((80:Nat):Int),0+(t+14)<(aX x 0 80).length,(aX x 0 80).getD (0+(t+14)) 0=a,IntKind.i64.wrap (((t+16:Nat):Int)-15)=((t+1:Nat):Int),0≤((t+1:Nat):Int),((t+1:Nat):Int)<((80:Nat):Int),0+(t+1)<(aX x 0 80).length,(aX x 0 80).getD (0+(t+1)) 0=b,IntKind.i64.wrap (((t+16:Nat):Int)-7)=((t+9:Nat):Int),0≤((t+9:Nat):Int),((t+9:Nat):Int)<((80:Nat):Int),0+(t+9)<(aX x 0 80).length,(aX x 0 80).getD (0+(t+9)) 0=e,IntKind.i64.wrap (((t+16:Nat):Int)-16)=((t:Nat):Int),0≤((t:Nat):Int),((t:Nat):Int)<((80:Nat):Int),0+(t)<(aX x 0 80).length,(aX x 0 80).getD (0+(t)) 0=d,sched6 a b e d=v,0≤((t+16:Nat):Int),((t+16:Nat):Int)<((80:Nat):Int),0+(t+16)+1≤(aX x 0 80).length,IntKind.i64.wrap (((t+16:Nat):Int)+1)=((t+17:Nat):Int)]:=by delta oX;kernel_rfl
theorem end2 (ty:TypeId) (x:Nat→Int) (t:Nat) (g:Nat→SV):oX Γ 100 L2 (fill g 0 (M2 t)) (mem h ys ty x) [(41,[.b false])] (.exit 2) Mb (mem h ys ty x) [decide ((t:Int)<80)=false]:=by delta oX;kernel_rfl
theorem pre3 (ty:TypeId) (x:Nat→Int) (g:Nat→SV):oX Γ 100 A13 (fill g 0 (Mb)) (mem h ys ty x) [] .normal (M13 h) (mem h ys ty x) []:=by delta oX;kernel_rfl
theorem pre4 (ty:TypeId) (x:Nat→Int) (s:Nat→Int) (g:Nat→SV):oX Γ 100 A14 (fill g 0 (M13 s)) (mem h ys ty x) [] .normal (M3 s 0) (mem h ys ty x) []:=by delta oX;kernel_rfl
theorem step3 (n:Nat) (ty:TypeId) (x:Nat→Int) (s:Nat→Int) (t:Nat) (k w:Int) (g:Nat→SV):oX Γ 100 L3 (fill g 0 (M3 s t)) (mem h ys ty x) [(116,[.b true]),(139,[.dyn]),(140,[.n k]),(143,[.dyn]),(144,[.n w]),(179,[.n ((t+1:Nat):Int)])] .normal (M3 (vU s k w) (t+1)) (mem h ys ty x) [decide ((t:Int)<80)=true,0≤(t:Int),(t:Int)<((80:Nat):Int),0+t<mY.length,mY.getD (0+t) 0=k,0≤((t:Nat):Int),((t:Nat):Int)<((80:Nat):Int),0+(t)<(aX x 0 80).length,(aX x 0 80).getD (0+(t)) 0=w,IntKind.i64.wrap ((t:Int)+1)=((t+1:Nat):Int)]:=by delta oX;kernel_rfl
theorem end3 (ty:TypeId) (x:Nat→Int) (s:Nat→Int) (t:Nat) (g:Nat→SV):oX Γ 100 L3 (fill g 0 (M3 s t)) (mem h ys ty x) [(116,[.b false])] (.exit 4) (M13 s) (mem h ys ty x) [decide ((t:Int)<80)=false]:=by delta oX;kernel_rfl
theorem pre5 (ty:TypeId) (x:Nat→Int) (s:Nat→Int) (g:Nat→SV):oX Γ 100 A23 (fill g 0 (M13 s)) (mem h ys ty x) [] .normal (M4 s 0) (mem (jw h s 0) ys ty x) []:=by delta oX;kernel_rfl
theorem tab4 (ty:TypeId) (x:Nat→Int) (s:Nat→Int) (g:Nat→SV):tabLH (fun t=>outX (mem (jw h s (t+1)) ys ty x).length (M4 s (t+1)) (exec Γ tys 100 L4 ⟨fill g 0 (M4 s t),mem (jw h s t) ys ty x,[]⟩)) 8=tabRH (fun t=>some (.normal,live (M4 s (t+1)),(M4 s (t+1)).length,mem (jw h s (t+1)) ys ty x,[])) 8:=by kernel_rfl
theorem end4 (ty:TypeId) (x:Nat→Int) (s:Nat→Int) (g:Nat→SV):oX Γ 100 L4 (fill g 0 (M4 s 8)) (mem (jw h s 8) ys ty x) [] (.exit 6) (M4 s 8) (mem (jw h s 8) ys ty x) []:=by delta oX;kernel_rfl
end
end dblk
theorem sM (R:Nat→Int) (i:Nat) (h:i<80):(aX R 0 80).getD (0+i) 0=R i:=by rw[Nat.zero_add,rQ R 80 0 i h,Nat.zero_add]
def tQ (ys:List Int) (W:Nat→Int):Prop:=(∀t,t<16→cO ((ys.drop (8*t)).take 8)=W t)∧∀t,t<64→sched6 (W (t+14)) (W (t+1)) (W (t+9)) (W t)=W (t+16)
def jW (h W:Nat→Int):Nat→Nat→Int
 | 0=>h
 | t+1=>vU (jW h W t) (mY.getD t 0) (W t)
section
variable (h:Nat→Int) (ys:List Int) (n c:Nat) (ty:TypeId) (W:Nat→Int)
theorem dblk_loop1 (hn:128≤n) (hy:ys.length=n) (hc:n≤c) (hS:tQ ys W) (x:Nat→Int) {Post:Ex→List SV→List Blk→Prop} (hp:∀g x,(∀j,j<16→x j=W j)→Post .normal (fill g 0 dblk.Mb) (dblk.mem h ys ty x)) (g:Nat→SV):
  aK Tryz.prog G2 2 (.block 0 (.loop dblk.L1)) (fill g 0 (dblk.M1 n c 0)) (dblk.mem h ys ty x) Post:=by
 refine Runs.block ?_
 refine Runs.dS (fun(p:Nat × (Nat→Int))=>dblk.M1 n c p.1) (fun p=>dblk.mem h ys ty p.2) (fun p=>p.1≤16∧∀j,j<p.1→p.2 j=W j) (fun p=>16-p.1) ?_ (0,x) ⟨Nat.zero_le _,fun j hj=>by simp only at hj;omega⟩ g
 rintro⟨t,x⟩ g ⟨ht,hx⟩
 simp only at ht hx
 by_cases hlt:t<16
 ·refine Runs.au ah mixed (dblk.step1 h ys n c ty x t (W t) g) ?_ (dblk.eT h ys n c ty _ _) rfl fun g'=>⟨(t+1,iM (0+t) [W t] x),g',rfl,rfl,⟨hlt,fun j hj=> ?_⟩,by simp only;omega⟩
  ·refine⟨decide_eq_true (by omega),?_,?_,by omega,by omega,by omega,?_,by omega,?_,hS.1 t hlt,by omega,by omega,by rw[dD];omega,?_,trivial⟩
   ·rw[gV _ (by omega) (by omega)];omega
   ·rw[gV (8*(t:Int)) (by omega) (by omega),gV _ (by omega) (by omega)];omega
   ·unfold advO
    rw[if_neg (by omega),Nat.zero_add,Nat.add_sub_cancel_left]
   ·rw[List.length_take];omega
   ·rw[gV _ (by omega) (by omega)];omega
  ·simp only at hj ⊢
   rw[nG]
   by_cases e:j=0+t
   ·rw[if_pos e,e,Nat.zero_add]
   ·rw[if_neg e];exact hx j (by omega)
 ·obtain rfl:t=16:=by omega
  exact Runs.au ah mixed (dblk.end1 h ys n c ty x 16 g) ⟨by decide,trivial⟩ (dblk.idsb h ys ty x) rfl fun g'=>hp g' x hx
theorem dblk_loop2 (hS:tQ ys W) (x:Nat→Int) (hx0:∀j,j<16→x j=W j) {Post:Ex→List SV→List Blk→Prop} (hp:∀g x,(∀j,j<80→x j=W j)→Post .normal (fill g 0 dblk.Mb) (dblk.mem h ys ty x)) (g:Nat→SV):
  aK Tryz.prog G2 2 (.block 2 (.loop dblk.L2)) (fill g 0 (dblk.M2 16)) (dblk.mem h ys ty x) Post:=by
 refine Runs.block ?_
 refine Runs.dS (fun(p:Nat × (Nat→Int))=>dblk.M2 (p.1+16)) (fun p=>dblk.mem h ys ty p.2) (fun p=>p.1≤64∧∀j,j<p.1+16→p.2 j=W j) (fun p=>64-p.1) ?_ (0,x) ⟨Nat.zero_le _,fun j hj=>hx0 j (by simpa using hj)⟩ g
 rintro⟨t,x⟩ g ⟨ht,hx⟩
 simp only at ht hx
 by_cases hlt:t<64
 ·refine Runs.au ah mixed (dblk.step2 h ys 0 ty x t (W (t+14)) (W (t+1)) (W (t+9)) (W t) (W (t+16)) g) ?_ (dblk.fu h ys ty _ _) rfl fun g'=>⟨(t+1,iM (0+(t+16)) [W (t+16)] x),g',rfl,rfl,⟨hlt,fun j hj=> ?_⟩,by simp only;omega⟩
  ·have w:∀y:Int,0≤y→y<100→IntKind.i64.wrap y=y:=fun y h0 h1=>gV y h0 (by omega)
   have l:∀e,e<80→0+e<(aX x 0 80).length:=fun e he=>by rw[dD];omega
   have r:∀e,e<t+16→(aX x 0 80).getD (0+e) 0=W e:=fun e he=>by rw[sM x e (by omega)];exact hx e he
   refine⟨decide_eq_true (by omega),?_,by omega,by omega,l _ (by omega),r _ (by omega),?_,by omega,by omega,l _ (by omega),r _ (by omega),?_,by omega,by omega,l _ (by omega),r _ (by omega),?_,by omega,by omega,l _ (by omega),r _ (by omega),hS.2 t hlt,by omega,by omega,by rw[dD];omega,?_,trivial⟩
   ·rw[w _ (by omega) (by omega)];omega
   ·rw[w _ (by omega) (by omega)];omega
   ·rw[w _ (by omega) (by omega)];omega
   ·rw[w _ (by omega) (by omega)];omega
   ·rw[w _ (by omega) (by omega)];omega
  ·simp only at hj ⊢
   rw[nG]
   by_cases e:j=0+(t+16)
   ·rw[if_pos e,e,Nat.zero_add]
   ·rw[if_neg e];exact hx j (by omega)
 ·obtain rfl:t=64:=by omega
  exact Runs.au ah mixed (dblk.end2 h ys ty x 80 g) ⟨by decide,trivial⟩ (dblk.idsb h ys ty x) rfl fun g'=>hp g' x hx
theorem dblk_loop3 (x:Nat→Int) (hx:∀j,j<80→x j=W j) {Post:Ex→List SV→List Blk→Prop} (hp:∀g,Post .normal (fill g 0 (dblk.M13 (jW h W 80))) (dblk.mem h ys ty x)) (g:Nat→SV):
  aK Tryz.prog G2 2 (.block 4 (.loop dblk.L3)) (fill g 0 (dblk.M3 h 0)) (dblk.mem h ys ty x) Post:=by
 refine Runs.block ?_
 refine Runs.dS (fun(t:Nat)=>dblk.M3 (jW h W t) t) (fun t=>dblk.mem h ys ty x) (fun t=>t≤80) (fun t=>80-t) ?_ 0 (Nat.zero_le _) g
 intro t g ht
 by_cases hlt:t<80
 ·refine Runs.au ah mixed (dblk.step3 h ys 0 ty x (jW h W t) t (mY.getD t 0) (W t) g) ?_ (dblk.ids3 h ys ty _ _ _) rfl fun g'=>⟨t+1,g',rfl,rfl,hlt,by omega⟩
  refine⟨decide_eq_true (by omega),by omega,by omega,by show 0+t<80;omega,by rw[Nat.zero_add],by omega,by omega,by rw[dD];omega,by rw[sM x t hlt];exact hx t hlt,?_,trivial⟩
  rw[gV _ (by omega) (by omega)];omega
 ·obtain rfl:t=80:=by omega
  exact Runs.au ah mixed (dblk.end3 h ys ty x _ 80 g) ⟨by decide,trivial⟩ (dblk.ids13 h ys ty x _) rfl hp
theorem dblk_loop4 (x s:Nat→Int) {Post:Ex→List SV→List Blk→Prop} (hp:∀g,Post .normal (fill g 0 (dblk.M4 s 8)) (dblk.mem (dblk.jw h s 8) ys ty x)) (g:Nat→SV):
  aK Tryz.prog G2 2 (.block 6 (.loop dblk.L4)) (fill g 0 (dblk.M4 s 0)) (dblk.mem (dblk.jw h s 0) ys ty x) Post:=by
 refine Runs.block ?_
 refine Runs.dS (fun(t:Nat)=>dblk.M4 s t) (fun t=>dblk.mem (dblk.jw h s t) ys ty x) (fun t=>t≤8) (fun t=>8-t) ?_ 0 (Nat.zero_le _) g
 intro t g ht
 by_cases hlt:t<8
 ·exact Runs.au ah mixed (vP (dblk.tab4 h ys ty x s g) t hlt) trivial (dblk.ids4 h ys ty x s _) rfl fun g'=>⟨t+1,g',rfl,rfl,hlt,by omega⟩
 ·obtain rfl:t=8:=by omega
  exact Runs.au ah mixed (dblk.end4 h ys ty x s g) trivial (dblk.ids4 h ys ty x s 8) rfl hp
def comp6 (h W:Nat→Int) (i:Nat):Int:=addD (h i) (jW h W 80 i)
theorem dblk_res (x s:Nat→Int) (g:Nat→SV):eRes tys (fill g 0 (dblk.M4 s 8)) (fun k=>(dblk.mem (dblk.jw h s 8) ys ty x)[k]?) dblk.fn.results.toList=some []:=by kernel_rfl
theorem dblk_row (x s:Nat→Int):(dblk.mem (dblk.jw h s 8) ys ty x)[0]? =some ⟨true,129,rowD (fun i=>addD (h i) (s i))⟩:=by kernel_rfl
theorem dblk_run (hn:128≤n) (hy:ys.length=n) (hc:n≤c) (hS:tQ ys W):aK Tryz.prog G2 2 dblk.body (aH dblk.fn [.o (.a (.ptr 0 0)),.o (.a (.sld 1 0 0 n c))]) [⟨true,129,rowD h⟩,⟨false,ty,.pre .u8 ys⟩] (aN tys dblk.fn (bA (.t []) (.upd 129 (rowD (comp6 h W))))):=by
 rw[dblk.dX]
 refine Runs.seq (Runs.au ah mixed (dblk.pre0 h ys n c ty) trivial (dblk.jy h ys n c ty _) rfl fun g=> ?_)
 refine Runs.seq (Runs.seq (Runs.au ah mixed (dblk.pre1 h ys n c ty _ g) trivial (dblk.eT h ys n c ty _ 0) rfl ?_))
 refine dblk_loop1 h ys n c ty W hn hy hc hS _ fun g x hx=> ?_
 refine Runs.seq (Runs.seq (Runs.au ah mixed (dblk.pre2 h ys ty x g) trivial (dblk.fu h ys ty x 16) rfl ?_))
 refine dblk_loop2 h ys ty W hS x hx fun g x hx=> ?_
 refine Runs.seq (Runs.au ah mixed (dblk.pre3 h ys ty x g) trivial (dblk.ids13 h ys ty x h) rfl fun g=> ?_)
 refine Runs.seq (Runs.seq (Runs.au ah mixed (dblk.pre4 h ys ty x h g) trivial (dblk.ids3 h ys ty x h 0) rfl ?_))
 refine dblk_loop3 h ys ty W x hx fun g=> ?_
 refine Runs.seq (Runs.au ah mixed (dblk.pre5 h ys ty x _ g) trivial (dblk.ids4 h ys ty x _ 0) rfl ?_)
 refine dblk_loop4 h ys ty x _ fun g=> ?_
 exact aN.fall (dblk_res h ys ty x _ g) ⟨rfl,dblk_row h ys ty x _⟩
end
def sch6 (ys:List Int) (t:Nat):Int:=
 if h:t<16 then cO ((ys.drop (8*t)).take 8)
 else sched6 (sch6 ys (t-2)) (sch6 ys (t-15)) (sch6 ys (t-7)) (sch6 ys (t-16))
termination_by t
decreasing_by all_goals omega
theorem sH (ys:List Int):tQ ys (sch6 ys):=by
 refine⟨fun t ht=> ?_,fun t ht=> ?_⟩
 ·conv=>rhs;rw[sch6]
  rw[dif_pos ht]
 ·conv=>rhs;rw[sch6]
  rw[dif_neg (by omega)]
  rfl
theorem sched6_unique {ys:List Int} {W W':Nat→Int} (h:tQ ys W) (h':tQ ys W'):∀t,t<80→W t=W' t:=by
 intro t
 induction t using Nat.strongRecOn with
 | _ t ih=>
  intro ht
  rcases Nat.lt_or_ge t 16 with h1 | h1
  ·rw[←h.1 t h1,←h'.1 t h1]
  ·obtain⟨s,rfl⟩:∃s,t=s+16:=⟨t-16,by omega⟩
   rw[←h.2 s (by omega),←h'.2 s (by omega),ih (s+14) (by omega) (by omega),ih (s+1) (by omega) (by omega),ih (s+9) (by omega) (by omega),ih s (by omega) (by omega)]
theorem zw {h W W':Nat→Int}:∀t,(∀j,j<t→W j=W' j)→jW h W t=jW h W' t
 | 0,_=>rfl
 | t+1,e=>by rw[jW,jW,zw t fun j hj=>e j (by omega),e t (by omega)]
def jN (h:E8) (ys:List Int):E8:=E8.mk' (comp6 h.at (sch6 ys))
def rowE (h:E8):List Atom:=h.to.map (aB .u64)
theorem rowD_E (h:E8):rowD h.at=rowE h:=by kernel_rfl
theorem rowE_ids (h:E8):bB (rowE h)=[]:=iy _ _
theorem dblk_runS (h:E8) (ys:List Int) (n c:Nat) (ty:TypeId) (hn:128≤n) (hy:ys.length=n) (hc:n≤c):aK Tryz.prog G2 2 dblk.body (aH dblk.fn [.o (.a (.ptr 0 0)),.o (.a (.sld 1 0 0 n c))]) [⟨true,129,rowE h⟩,⟨false,ty,.pre .u8 ys⟩] (aN tys dblk.fn (bA (.t []) (.upd 129 (rowE (jN h ys))))):=by
 have hr:=dblk_run h.at ys n c ty (sch6 ys) hn hy hc (sH ys)
 rw[rowD_E] at hr
 have e:rowD (comp6 h.at (sch6 ys))=rowE (jN h ys):=by
  rw[←rowD_E]
  unfold rowD jN
  simp only[E8.dY _ 0 (by omega),E8.dY _ 1 (by omega),E8.dY _ 2 (by omega),E8.dY _ 3 (by omega),E8.dY _ 4 (by omega),E8.dY _ 5 (by omega),E8.dY _ 6 (by omega),E8.dY _ 7 (by omega)]
 rw[e] at hr
 exact hr
def eOf (cs:List Atom):Option E8:=match oP .u64 cs with
 | some a=>E8.of a
 | none=>none
theorem eOf_row {cs:List Atom} {h:E8} (e:eOf cs=some h):cs=rowE h:=by
 unfold eOf at e
 split at e<;>try cases e
 rename_i a ha
 unfold rowE
 rw[E8.iV _ _ e,kI ha]
def Al:List aV→Option (SV × dh × Cst)
 | [.row true ty cs,.win .u8 ys n wty]=>if Nat.beq ty 129 then match eOf cs with
   | some h=>some (.t [],.upd 129 (rowE (jN h ys)),[128≤n])
   | none=>none
  else none
 | _=>none
theorem dblk_specE {ps:List aV} {q:SV × dh × Cst} (h:Al ps=some q):∃H ys n wty,ps=[.row true 129 (rowE H),.win .u8 ys n wty]∧q=(.t [],.upd 129 (rowE (jN H ys)),[128≤n]):=by
 unfold Al at h
 split at h<;>try cases h
 split at h<;>try cases h
 rename_i hty
 split at h<;>cases h
 rename_i H hH
 rw[eOf_row hH,Nat.eq_of_beq_eq_true hty]
 exact⟨H,_,_,_,rfl,rfl⟩
noncomputable def dblk_con:Con Tryz.prog G2:=Con.parts ah 111 dblk.fn Tryz.func111 (by kernel_rfl) (c:=dblk.body) (by kernel_rfl) [.rowW,.win .u8] Al
 (fun ps r e p h _=>by
  obtain⟨H,ys,n,wty,rfl,hq⟩:=dblk_specE h
  cases hq
  refine⟨(fun k hk=>by cases hk),rowE_ids _,⟨_,rfl,rfl,rfl⟩,(fun i b hib=> ?_),fun kd ty xs o n c rest h=>by cases h⟩
  cases i with
  | zero=>cases hib;rfl
  | succ i=>cases hib)
 (fun ps r e p cap h hp hi=>by
  obtain⟨H,ys,n,wty,rfl,hq⟩:=dblk_specE h
  cases hq
  exact dblk_runS H ys n _ wty hp.1 hi.2.1.1 hi.2.1.2)
open Go Go.Eng Go.RowKit
def bU:Cod B64:=cRow .u8 B64.to B64.of B64.iV
def zeroC:B64:=⟨0,0,0,0,0,0,0,0,0,0,0,0,0,0,0,0,0,0,0,0,0,0,0,0,0,0,0,0,0,0,0,0,0,0,0,0,0,0,0,0,0,0,0,0,0,0,0,0,0,0,0,0,0,0,0,0,0,0,0,0,0,0,0,0⟩
def fZ:E8:=⟨7640891576956012808,13503953896175478587,4354685564936845355,11912009170470909681,5840696475078001361,11170449401992604703,2270897969802886507,6620516959819538809⟩
def outD (h:E8):B64:=⟨aF h.b0 56,aF h.b0 48,aF h.b0 40,aF h.b0 32,aF h.b0 24,aF h.b0 16,aF h.b0 8,aF h.b0 0,aF h.b1 56,aF h.b1 48,aF h.b1 40,aF h.b1 32,aF h.b1 24,aF h.b1 16,aF h.b1 8,aF h.b1 0,aF h.b2 56,aF h.b2 48,aF h.b2 40,aF h.b2 32,aF h.b2 24,aF h.b2 16,aF h.b2 8,aF h.b2 0,aF h.b3 56,aF h.b3 48,aF h.b3 40,aF h.b3 32,aF h.b3 24,aF h.b3 16,aF h.b3 8,aF h.b3 0,aF h.b4 56,aF h.b4 48,aF h.b4 40,aF h.b4 32,aF h.b4 24,aF h.b4 16,aF h.b4 8,aF h.b4 0,aF h.b5 56,aF h.b5 48,aF h.b5 40,aF h.b5 32,aF h.b5 24,aF h.b5 16,aF h.b5 8,aF h.b5 0,aF h.b6 56,aF h.b6 48,aF h.b6 40,aF h.b6 32,aF h.b6 24,aF h.b6 16,aF h.b6 8,aF h.b6 0,aF h.b7 56,aF h.b7 48,aF h.b7 40,aF h.b7 32,aF h.b7 24,aF h.b7 16,aF h.b7 8,aF h.b7 0⟩
def tailD (rest:List Int) (m:Nat):List Int:=bq (0+(0+m)) [128] 0 (bq (0+0) rest 0 (List.replicate 256 0))
def lZ (zs:List Int) (at_:Nat) (bt:Int):List Int:=bq (0+at_) (app.sh8.map (aF bt)) 0 zs
namespace d512
noncomputable abbrev fn:=Tryz.f62
noncomputable def body:Code:=bZ fn
noncomputable def L:Code:=cL (cB (cs1 (bY 3 body)))
noncomputable def R6:Code:=cs1 (bY 4 body)
noncomputable def T7:Code:=bY 5 body
noncomputable def T15:Code:=bY 5 T7
theorem T3_eq:bY 3 body= .seq (.block 0 (.loop L)) (.seq R6 T7):=by kernel_rfl
noncomputable def Γ:Cons Tryz.prog G2:=[dblk_con,app_con.lift gs_g2]
namespace w
def M1 (o m c N:Nat):List (Option SV):=aJ 58 0 [(0,.o (.a (.sld 0 0 o m c))),(2,.o (.a (.ptr 1 0))),(3,.o (.a (.ptr 2 0))),(4,(av .i64).enc ((N:Nat):Int))]
def M6 (l:Nat) (N:Nat):List (Option SV):=aJ 58 0 [(2,.o (.a (.ptr 1 0))),(3,.o (.a (.ptr 2 0))),(4,(av .i64).enc ((N:Nat):Int)),(5,.o (.a (.sld 3 0 0 l 256)))]
section
variable (ys:List Int) (ty:TypeId) (H:E8)
def mem:List Blk:=[⟨false,ty,.pre .u8 ys⟩,⟨true,37,.lit (zeroC.to.map (aB .u8))⟩,⟨true,129,.lit (rowE H)⟩]
def memT (zs:List Int):List Blk:=mem ys ty H++[⟨true,5,.run .u8 zs⟩]
theorem eT (o m c N:Nat):oI (M1 o m c N) (mem ys ty H):=by delta oI;kernel_rfl
theorem ids6 (zs:List Int) (l:Nat) (N:Nat):oI (M6 l N) (memT ys ty H zs):=by delta oI;kernel_rfl
end
noncomputable def t0 (n c:Nat):List SV:=aH fn [.o (.a (.sld 0 0 0 n c))]
section
variable (ys:List Int) (ty:TypeId)
theorem s1 (n c:Nat):oX Γ 100 (dU 3 body) (t0 n c) [⟨false,ty,.pre .u8 ys⟩] [] .normal (M1 0 n c n) (mem ys ty fZ) []:=by delta oX;kernel_rfl
theorem go (H:E8) (o m c N:Nat) (g:Nat→SV):oX Γ 100 L (fill g 0 (M1 o m c N )) (mem ys ty H) [(15,[.b true])] .normal (M1 (advO c 128 o) (m-128) (c-128) N) (mem ys ty (jN H ((ys.drop o).take m))) [decide ((m:Int)≥128)=true,o+m≤ys.length,m≤c,128≤m,(0:Int)≤128,(128:Int)≤(m:Int),(m:Int)≤(c:Int)]:=by delta oX;kernel_rfl
theorem stop (H:E8) (o m c N:Nat) (g:Nat→SV):oX Γ 100 L (fill g 0 (M1 o m c N )) (mem ys ty H) [(15,[.b false])] (.exit 0) (M1 o m c N) (mem ys ty H) [decide ((m:Int)≥128)=false]:=by delta oX;kernel_rfl
theorem s6 (H:E8) (o m c N:Nat) (g:Nat→SV):oX Γ 100 R6 (fill g 0 (M1 o m c N )) (mem ys ty H) [] .normal (M6 (0+m+1) N) (memT ys ty H (tailD ((ys.drop o).take m) m)) [(0:Int)≤0,(0:Int)≤256,Room Tryz.prog 5 256,o+m≤ys.length,0+m≤256,0+0+m≤(List.replicate 256 (0:Int)).length,0+1≤1,0+m+1≤256,0+(0+m)+1≤(bq (0+0) ((ys.drop o).take m) 0 (List.replicate 256 0)).length]:=by delta oX;kernel_rfl
end
def M15:List (Option SV):=aJ 58 0 [(2,.o (.a (.ptr 1 0))),(3,.o (.a (.ptr 2 0)))]
section
variable (ys:List Int) (ty:TypeId) (H:E8)
theorem ids15:oI M15 (mem ys ty H):=by delta oI;kernel_rfl
theorem s7a (zs:List Int) (l N:Nat) (bt:Int) (g:Nat→SV):oX Γ 100 (dU 5 T7) (fill g 0 (M6 l N )) (memT ys ty H zs) [(27,[.b false]),(37,[.n bt])] .normal M15 (mem ys ty (jN H (((lZ zs 120 bt).drop 0).take 128))) [decide ((l:Int)>112)=false,(0:Int)≤0,(0:Int)≤128,(128:Int)≤256,(0:Int)≤0,(0:Int)≤120,(120:Int)≤256,IntKind.u64.wrap (IntKind.u64.wrap ((N:Nat):Int)*8)=bt,120≤256,128≤256,128≤zs.length,128≤(lZ zs 120 bt).length,128≤256,128≤128,(0:Int)≤128,(128:Int)≤128,(128:Int)≤256]:=by delta oX;kernel_rfl
theorem s7b (zs:List Int) (l N:Nat) (bt:Int) (g:Nat→SV):oX Γ 100 (dU 5 T7) (fill g 0 (M6 l N )) (memT ys ty H zs) [(27,[.b true]),(37,[.n bt])] .normal M15 (mem ys ty (jN (jN H (((lZ zs 248 bt).drop 0).take 256)) (((lZ zs 248 bt).drop 128).take 128))) [decide ((l:Int)>112)=true,(0:Int)≤0,(0:Int)≤256,(256:Int)≤256,(0:Int)≤0,(0:Int)≤248,(248:Int)≤256,IntKind.u64.wrap (IntKind.u64.wrap ((N:Nat):Int)*8)=bt,248≤256,256≤256,256≤zs.length,256≤(lZ zs 248 bt).length,256≤256,128≤256,(0:Int)≤128,(128:Int)≤256,(256:Int)≤256,256≤(lZ zs 248 bt).length,128≤128,128≤128,(0:Int)≤128,(128:Int)≤128,(128:Int)≤128]:=by delta oX;kernel_rfl
noncomputable def fin (g:Nat→SV):St:=dz Γ tys 100 T15 ⟨fill g 0 (M15),mem ys ty H,[]⟩
theorem d (g:Nat→SV):exec Γ tys 100 T15 ⟨fill g 0 (M15),mem ys ty H,[]⟩=some (.ret,⟨(fin ys ty H g).tm,(fin ys ty H g).mem,[]⟩,[0≤64,8≤64,8≤64,8≤64,16≤64,16≤64,16≤64,24≤64,24≤64,24≤64,32≤64,32≤64,32≤64,40≤64,40≤64,40≤64,48≤64,48≤64,48≤64,56≤64,56≤64,56≤64,64≤64,64≤64]):=by kernel_rfl
theorem res (g:Nat→SV):eRes tys (fin ys ty H g).tm (fun k=>(fin ys ty H g).mem[k]?) fn.results.toList=some [.g ((outD H).to.map (aB .u8))]:=by kernel_rfl
end
end w
namespace n
def M1 (a:Option Addr):List (Option SV):=aJ 58 0 [(0,.o (.a (.v (.slice a 0 0)))),(2,.o (.a (.ptr 0 0))),(3,.o (.a (.ptr 1 0))),(4,(av .i64).enc ((0:Nat):Int))]
def M6 (l:Nat):List (Option SV):=aJ 58 0 [(2,.o (.a (.ptr 0 0))),(3,.o (.a (.ptr 1 0))),(4,(av .i64).enc ((0:Nat):Int)),(5,.o (.a (.sld 2 0 0 l 256)))]
def mem (H:E8):List Blk:=[⟨true,37,.lit (zeroC.to.map (aB .u8))⟩,⟨true,129,.lit (rowE H)⟩]
def memT (H:E8) (zs:List Int):List Blk:=mem H++[⟨true,5,.run .u8 zs⟩]
theorem eT (a:Option Addr) (H:E8):oI (M1 a) (mem H):=by delta oI;kernel_rfl
theorem ids6 (H:E8) (zs:List Int) (l:Nat):oI (M6 l) (memT H zs):=by delta oI;kernel_rfl
noncomputable def t0 (a:Option Addr):List SV:=aH fn [.o (.a (.v (.slice a 0 0)))]
theorem s1 (a:Option Addr):oX Γ 100 (dU 3 body) (t0 a) [] [] .normal (M1 a) (mem fZ) []:=by delta oX;kernel_rfl
theorem stop (a:Option Addr) (H:E8) (g:Nat→SV):oX Γ 100 L (fill g 0 (M1 a )) (mem H) [] (.exit 0) (M1 a) (mem H) []:=by delta oX;kernel_rfl
theorem s6 (a:Option Addr) (H:E8) (g:Nat→SV):oX Γ 100 R6 (fill g 0 (M1 a )) (mem H) [] .normal (M6 (0+0+1)) (memT H (tailD [] 0)) [(0:Int)≤0,(0:Int)≤256,Room Tryz.prog 5 256,0+0≤256,0+0+0≤(List.replicate 256 (0:Int)).length,0+1≤1,0+0+1≤256,0+(0+0)+1≤(bq (0+0) [] 0 (List.replicate 256 0)).length]:=by delta oX;kernel_rfl
def M15:List (Option SV):=aJ 58 0 [(2,.o (.a (.ptr 0 0))),(3,.o (.a (.ptr 1 0)))]
theorem ids15 (H:E8):oI M15 (mem H):=by delta oI;kernel_rfl
theorem s7a (H:E8) (zs:List Int) (l:Nat) (bt:Int) (g:Nat→SV):oX Γ 100 (dU 5 T7) (fill g 0 (M6 l )) (memT H zs) [(27,[.b false]),(37,[.n bt])] .normal M15 (mem (jN H (((lZ zs 120 bt).drop 0).take 128))) [decide ((l:Int)>112)=false,(0:Int)≤0,(0:Int)≤128,(128:Int)≤256,(0:Int)≤0,(0:Int)≤120,(120:Int)≤256,IntKind.u64.wrap (IntKind.u64.wrap ((0:Nat):Int)*8)=bt,120≤256,128≤256,128≤zs.length,128≤(lZ zs 120 bt).length,128≤256,128≤128,(0:Int)≤128,(128:Int)≤128,(128:Int)≤256]:=by delta oX;kernel_rfl
noncomputable def fin (H:E8) (g:Nat→SV):St:=dz Γ tys 100 T15 ⟨fill g 0 (M15),mem H,[]⟩
theorem d (H:E8) (g:Nat→SV):exec Γ tys 100 T15 ⟨fill g 0 (M15),mem H,[]⟩=some (.ret,⟨(fin H g).tm,(fin H g).mem,[]⟩,[0≤64,8≤64,8≤64,8≤64,16≤64,16≤64,16≤64,24≤64,24≤64,24≤64,32≤64,32≤64,32≤64,40≤64,40≤64,40≤64,48≤64,48≤64,48≤64,56≤64,56≤64,56≤64,64≤64,64≤64]):=by kernel_rfl
theorem res (H:E8) (g:Nat→SV):eRes tys (fin H g).tm (fun k=>(fin H g).mem[k]?) fn.results.toList=some [.g ((outD H).to.map (aB .u8))]:=by kernel_rfl
end n
end d512
theorem sched_take {ys zs:List Int} (e:ys.take 128=zs.take 128) {W:Nat→Int} (h:tQ ys W):tQ zs W:=by
 refine⟨fun t ht=> ?_,h.2⟩
 rw[←h.1 t ht]
 have f:∀l:List Int,(l.drop (8*t)).take 8=((l.take 128).drop (8*t)).take 8:=fun l=>by
  rw[List.drop_take,List.take_take]
  congr 1
  omega
 rw[f zs,f ys,e]
theorem blkD_take {ys zs:List Int} (e:ys.take 128=zs.take 128) (H:E8):jN H ys=jN H zs:=by
 unfold jN
 have hu:=sched6_unique (sched_take e (sH ys)) (sH zs)
 refine E8.uQ fun i hi=> ?_
 rw[E8.dY _ i hi,E8.dY _ i hi]
 unfold comp6
 rw[zw 80 fun j hj=>hu j hj]
def gD (H:E8) (xs:List Int):Nat→E8
 | 0=>H
 | i+1=>jN (gD H xs i) (xs.drop (128*i))
theorem zA {xs zs:List Int} (H:E8):∀i,(∀j,j<i→(xs.drop (128*j)).take 128=(zs.drop (128*j)).take 128)→gD H xs i=gD H zs i
 | 0,_=>rfl
 | i+1,h=>by
  rw[gD,gD,zA H i fun j hj=>h j (by omega)]
  exact blkD_take (h i (by omega)) _
def fP (ys:List Int):B64:=outD (gD fZ (bO ys 128 16) ((bO ys 128 16).length/128))
theorem tail_eq (rest:List Int) (r at_:Nat) (bt:Int) (hr:rest.length=r) (h:r+1≤at_) (h2:at_≤248):
  ((lZ (tailD rest r) at_ bt).drop 0).take (at_+8)=rest++([128]++(List.replicate (at_-1-r) 0++iB bt 8)):=by
 have h8:app.sh8.map (aF bt)=iB bt 8:=by kernel_rfl
 unfold lZ tailD
 rw[h8,List.drop_zero,jr _ _ _ (by simp only[bE,List.length_replicate,iw];omega),jr _ [128] _ (by simp only[bE,List.length_replicate,List.length_singleton];omega),jr _ rest _ (by rw[List.length_replicate];omega)]
 have e0:(List.replicate 256 (0:Int)).take (0+0)++(rest++(List.replicate 256 0).drop (0+0+rest.length))=rest++List.replicate (256-r) 0:=by
  rw[List.take_zero,List.nil_append,List.drop_replicate,hr]
  congr 2
  omega
 rw[e0]
 have e1:(rest++List.replicate (256-r) (0:Int)).take (0+(0+r))++([128]++(rest++List.replicate (256-r) 0).drop (0+(0+r)+[(128:Int)].length))=rest++([128]++List.replicate (255-r) 0):=by
  rw[List.take_left' (by omega),show 0+(0+r)+[(128:Int)].length=rest.length+1 by simp only[List.length_singleton];omega,←List.drop_drop,List.drop_left,List.drop_replicate]
  congr 3
  omega
 rw[e1]
 have hX:((rest++([128]++List.replicate (255-r) (0:Int))).take (0+at_)).length=at_:=by
  simp only[List.length_take,List.length_append,List.length_singleton,List.length_replicate]
  omega
 rw[←List.append_assoc,List.take_left' (by rw[List.length_append,hX,iw])]
 have e2:(rest++([128]++List.replicate (255-r) (0:Int))).take (0+at_)=rest++([128]++List.replicate (at_-1-r) 0):=by
  rw[show 0+at_=rest.length+([(128:Int)].length+(at_-1-r)) by simp only[List.length_singleton];omega,List.take_length_add_append,List.take_length_add_append,List.take_replicate]
  congr 3
  omega
 rw[e2,List.append_assoc,List.append_assoc]
theorem lenB16 (bt:Int):iB bt 16=List.replicate 8 0++iB bt 8:=by kernel_rfl
theorem rep_app (a b:Nat):List.replicate a (0:Int)++List.replicate b 0=List.replicate (a+b) 0:=by rw[List.replicate_append_replicate]
theorem zY (ys:List Int) (at_:Nat) (h:(ys.length%128+1≤112∧at_=120)∨(112<ys.length%128+1∧at_=248)):
  (bO ys 128 16).drop (128*(ys.length/128))=ys.drop (128*(ys.length/128))++([128]++(List.replicate (at_-1-(ys.length-128*(ys.length/128))) 0++iB (lF ys.length) 8)):=by
 unfold bO
 rw[List.drop_append_of_le_length (by omega),lenB16,←List.append_assoc (List.replicate _ _),rep_app]
 congr 4
 unfold eX
 rcases h with⟨h1,rfl⟩ | ⟨h1,rfl⟩<;>omega
theorem xC (ys:List Int) (at_:Nat) (h:(ys.length%128+1≤112∧at_=120)∨(112<ys.length%128+1∧at_=248)):(bO ys 128 16).length=128*(ys.length/128)+at_+8:=by
 have e:=congrArg List.length (zY ys at_ h)
 have hle:ys.length≤(bO ys 128 16).length:=by unfold bO;rw[List.length_append];omega
 simp only[List.length_drop,List.length_append,List.length_singleton,List.length_replicate,iw] at e
 rcases h with⟨h1,rfl⟩ | ⟨h1,rfl⟩<;>omega
def endD (H:E8) (zs:List Int) (l:Nat) (bt:Int):E8:=
 if 112<l then jN (jN H (((lZ zs 248 bt).drop 0).take 256)) (((lZ zs 248 bt).drop 128).take 128) else jN H (((lZ zs 120 bt).drop 0).take 128)
theorem s512_eq (ys:List Int) (rest:List Int) (hr:rest=ys.drop (128*(ys.length/128))):outD (endD (gD fZ ys (ys.length/128)) (tailD rest (ys.length-128*(ys.length/128))) (0+(ys.length-128*(ys.length/128))+1) (lF ys.length))=fP ys:=by
 subst hr
 unfold fP endD
 have hl:(ys.drop (128*(ys.length/128))).length=ys.length-128*(ys.length/128):=List.length_drop
 have hb:gD fZ ys (ys.length/128)=gD fZ (bO ys 128 16) (ys.length/128):=by
  refine zA _ _ fun j hj=> ?_
  unfold bO
  rw[List.drop_append_of_le_length (by omega),List.take_append_of_le_length (by rw[List.length_drop];omega)]
 rw[hb]
 congr 1
 by_cases hc:112<0+(ys.length-128*(ys.length/128))+1
 ·have hh:(ys.length%128+1≤112∧248=120)∨(112<ys.length%128+1∧248=248):= .inr ⟨by omega,rfl⟩
  rw[if_pos hc,xC ys 248 hh,show(128*(ys.length/128)+248+8)/128=ys.length/128+2 by omega]
  have ht:=tail_eq _ _ 248 (lF ys.length) hl (by omega) (by omega)
  rw[←zY ys 248 hh] at ht
  show _=jN (jN _ _) _
  have e1:=ht
  rw[show 248+8=256 from rfl] at e1
  rw[e1]
  congr 1
  have hL:(lZ (tailD (ys.drop (128*(ys.length/128))) (ys.length-128*(ys.length/128))) 248 (lF ys.length)).length=256:=by
   unfold lZ tailD
   rw[bE,bE,bE,List.length_replicate]
  have e2:lZ (tailD (ys.drop (128*(ys.length/128))) (ys.length-128*(ys.length/128))) 248 (lF ys.length)=(bO ys 128 16).drop (128*(ys.length/128)):=by
   rw[←e1,List.drop_zero,List.take_of_length_le (by omega)]
  rw[e2,List.drop_drop,List.take_of_length_le (by rw[List.length_drop,xC ys 248 hh];omega),show 128*(ys.length/128)+128=128*(ys.length/128+1) by omega]
 ·have hh:(ys.length%128+1≤112∧120=120)∨(112<ys.length%128+1∧120=248):= .inl ⟨by omega,rfl⟩
  rw[if_neg hc,xC ys 120 hh,show(128*(ys.length/128)+120+8)/128=ys.length/128+1 by omega]
  have ht:=tail_eq _ _ 120 (lF ys.length) hl (by omega) (by omega)
  rw[←zY ys 120 hh] at ht
  show _=jN _ _
  rw[show 120+8=128 from rfl] at ht
  rw[ht]
namespace d512
section
variable {Post:Ex→List SV→List Blk→Prop}
theorem loop_run (ys:List Int) (n c:Nat) (ty:TypeId) (hy:ys.length=n) (hc:n≤c)
  (hp:∀g o,o≤128*(n/128)→(n-128*(n/128)=0∨o=128*(n/128))→Post .normal (fill g 0 (w.M1 o (n-128*(n/128)) (c-128*(n/128)) n)) (w.mem ys ty (gD fZ ys (n/128)))) (g:Nat→SV):
  aK Tryz.prog G2 1 (.block 0 (.loop L)) (fill g 0 (w.M1 0 n c n)) (w.mem ys ty fZ) Post:=by
 refine Runs.block ?_
 refine Runs.dS (fun(x:Nat × Nat)=>w.M1 x.2 (n-128*x.1) (c-128*x.1) n) (fun x=>w.mem ys ty (gD fZ ys x.1)) (fun x=>128*x.1≤n∧x.2≤128*x.1∧(n-128*x.1=0∨x.2=128*x.1)) (fun x=>n-128*x.1) ?_ (0,0) ⟨Nat.zero_le _,Nat.zero_le _,.inr rfl⟩ g
 rintro⟨i,o⟩ g ⟨hi,hol,ho⟩
 simp only at hi hol ho
 by_cases hlt:128≤n-128*i
 ·obtain rfl:o=128*i:=by omega
  refine Runs.au ah mixed (w.go ys ty (gD fZ ys i) (128*i) (n-128*i) (c-128*i) n g) ⟨decide_eq_true (by omega),by omega,by omega,hlt,by omega,by omega,by omega,trivial⟩ (w.eT ys ty _ _ _ _ _) rfl fun g'=>⟨(i+1,advO (c-128*i) 128 (128*i)),g',?_,?_,⟨by simp only;omega,?_,?_⟩,by simp only;omega⟩
  ·simp only
   rw[show n-128*i-128=n-128*(i+1) by omega,show c-128*i-128=c-128*(i+1) by omega]
  ·simp only
   rw[List.take_of_length_le (by rw[List.length_drop];omega)]
   rfl
  ·simp only
   unfold advO
   by_cases h:c-128*i=128
   ·rw[if_pos h];omega
   ·rw[if_neg h];omega
  ·simp only
   unfold advO
   by_cases h:c-128*i=128
   ·left;omega
   ·rw[if_neg h];right;omega
 ·obtain rfl:i=n/128:=by omega
  exact Runs.au ah mixed (w.stop ys ty (gD fZ ys (n/128)) o (n-128*(n/128)) (c-128*(n/128)) n g) ⟨decide_eq_false (by omega),trivial⟩ (w.eT ys ty _ _ _ _ _) rfl fun g'=>hp g' o hol ho
end
theorem zH (rest:List Int) (m:Nat):(tailD rest m).length=256:=by
 unfold tailD
 rw[bE,bE,List.length_replicate]
theorem sD (zs:List Int) (at_:Nat) (bt:Int):(lZ zs at_ bt).length=zs.length:=by
 unfold lZ
 rw[bE]
theorem w.tail_run (ys:List Int) (ty:TypeId) (H:E8) (zs:List Int) (l n:Nat) (hz:zs.length=256) (g:Nat→SV):
  aK Tryz.prog G2 1 T7 (fill g 0 (w.M6 l n)) (w.memT ys ty H zs) (aN tys fn (bA (bU.enc (outD (endD H zs l (lF n)))) .none)):=by
 unfold endD
 by_cases hc:112<l
 ·rw[if_pos hc]
  refine Runs.bS ah mixed 5 (w.s7b ys ty H zs l n (lF n) g) ⟨decide_eq_true (by omega),by decide,by decide,by decide,by decide,by decide,by decide,rfl,by decide,by decide,by omega,by rw[sD];omega,by decide,by decide,by decide,by decide,by decide,by rw[sD];omega,by decide,by decide,by decide,by decide,by decide,trivial⟩ (w.ids15 ys ty _) rfl fun g'=> ?_
  exact Runs.aQ ah mixed (w.d ys ty _ g') ⟨by decide,by decide,by decide,by decide,by decide,by decide,by decide,by decide,by decide,by decide,by decide,by decide,by decide,by decide,by decide,by decide,by decide,by decide,by decide,by decide,by decide,by decide,by decide,by decide,trivial⟩ (aN.ret (w.res ys ty _ g') rfl)
 ·rw[if_neg hc]
  refine Runs.bS ah mixed 5 (w.s7a ys ty H zs l n (lF n) g) ⟨decide_eq_false (by omega),by decide,by decide,by decide,by decide,by decide,by decide,rfl,by decide,by decide,by omega,by rw[sD];omega,by decide,by decide,by decide,by decide,by decide,trivial⟩ (w.ids15 ys ty _) rfl fun g'=> ?_
  exact Runs.aQ ah mixed (w.d ys ty _ g') ⟨by decide,by decide,by decide,by decide,by decide,by decide,by decide,by decide,by decide,by decide,by decide,by decide,by decide,by decide,by decide,by decide,by decide,by decide,by decide,by decide,by decide,by decide,by decide,by decide,trivial⟩ (aN.ret (w.res ys ty _ g') rfl)
theorem w.run (ys:List Int) (n c:Nat) (ty:TypeId) (hy:ys.length=n) (hc:n≤c):aK Tryz.prog G2 1 body (aH fn [.o (.a (.sld 0 0 0 n c))]) [⟨false,ty,.pre .u8 ys⟩] (aN tys fn (bA (bU.enc (fP ys)) .none)):=by
 refine Runs.bS ah mixed 3 (w.s1 ys ty n c) trivial (w.eT ys ty _ _ _ _ _) rfl fun g=> ?_
 rw[T3_eq]
 refine Runs.seq (loop_run ys n c ty hy hc (fun g o hol ho=> ?_) g)
 have hrest:(ys.drop o).take (n-128*(n/128))=ys.drop (128*(n/128)):=by
  rcases ho with h | rfl
  ·rw[h,List.take_zero,List.drop_eq_nil_of_le (by omega)]
  ·rw[List.take_of_length_le (by rw[List.length_drop];omega)]
 refine Runs.seq (Runs.au ah mixed (w.s6 ys ty (gD fZ ys (n/128)) o (n-128*(n/128)) (c-128*(n/128)) n g) ⟨by decide,by decide,kW _ (by decide),by omega,by omega,by rw[List.length_replicate];omega,by decide,by omega,by rw[bE,List.length_replicate];omega,trivial⟩ (w.ids6 ys ty _ _ _ _) rfl fun g'=> ?_)
 have ht:=w.tail_run ys ty (gD fZ ys (n/128)) (tailD ((ys.drop o).take (n-128*(n/128))) (n-128*(n/128))) (0+(n-128*(n/128))+1) n (zH _ _) g'
 subst hy
 rw[s512_eq ys _ hrest] at ht
 exact ht
theorem n.tail_run (H:E8) (zs:List Int) (hz:zs.length=256) (g:Nat→SV):
  aK Tryz.prog G2 0 T7 (fill g 0 (n.M6 (0+0+1))) (n.memT H zs) (aN tys fn (bA (bU.enc (outD (endD H zs (0+0+1) (lF 0)))) .none)):=by
 unfold endD
 rw[if_neg (by decide)]
 refine Runs.bS ah mixed 5 (n.s7a H zs (0+0+1) (lF 0) g) ⟨decide_eq_false (by decide),by decide,by decide,by decide,by decide,by decide,by decide,rfl,by decide,by decide,by omega,by rw[sD];omega,by decide,by decide,by decide,by decide,by decide,trivial⟩ (n.ids15 _) rfl fun g'=> ?_
 exact Runs.aQ ah mixed (n.d _ g') ⟨by decide,by decide,by decide,by decide,by decide,by decide,by decide,by decide,by decide,by decide,by decide,by decide,by decide,by decide,by decide,by decide,by decide,by decide,by decide,by decide,by decide,by decide,by decide,by decide,trivial⟩ (aN.ret (n.res _ g') rfl)
theorem n.run (a:Option Addr):aK Tryz.prog G2 0 body (aH fn [.o (.a (.v (.slice a 0 0)))]) [] (aN tys fn (bA (bU.enc (fP [])) .none)):=by
 refine Runs.bS ah mixed 3 (n.s1 a) trivial (n.eT a _) rfl fun g=> ?_
 rw[T3_eq]
 refine Runs.seq (Runs.block ?_)
 refine Runs.loop (fun(x:Nat × (Nat→SV))=>(fill x.2 0 (n.M1 a),n.mem fZ)) (fun _=>True) (fun x=>x.1) ?_ (0,g) trivial
 rintro⟨_,g⟩ _
 refine Runs.au ah mixed (n.stop a fZ g) trivial (n.eT a _) rfl fun g=> ?_
 refine Runs.seq (Runs.au ah mixed (n.s6 a fZ g) ⟨by decide,by decide,kW _ (by decide),by decide,by rw[List.length_replicate];decide,by decide,by decide,by rw[bE,List.length_replicate];decide,trivial⟩ (n.ids6 _ _ _) rfl fun g'=> ?_)
 have ht:=n.tail_run fZ (tailD [] 0) (zH _ _) g'
 have e:=s512_eq [] [] rfl
 exact(congrArg (fun v=>aK Tryz.prog G2 0 T7 (fill g' 0 (n.M6 (0+0+1))) (n.memT fZ (tailD [] 0)) (aN tys fn (bA (bU.enc v) .none))) e).mp ht
end d512
def zR:List aV→Option (SV × dh × Cst)
 | [.win .u8 ys n ty]=>some (bU.enc (fP ys),.none,[])
 | [.val (.o (.a (.v (.slice _ 0 0))))]=>some (bU.enc (fP []),.none,[])
 | _=>none
noncomputable def s512_con:Con Tryz.prog G2:=Con.parts ah 62 d512.fn Tryz.func62 (by kernel_rfl) (c:=d512.body) (by kernel_rfl) [.win .u8] zR
 (fun ps r e p h hp=>by
  unfold zR at h
  split at h<;>cases h
  ·exact⟨bU.ids _,fun b hb=>by simp only[bG,aV.blk,List.append_nil,List.mem_singleton] at hb;rw[hb]⟩
  ·exact⟨bU.ids _,fun b hb=>by cases hb⟩)
 (fun ps r e p cap h hp hi=>by
  unfold zR at h
  split at h<;>cases h
  ·exact d512.w.run _ _ _ _ hi.1.1 hi.1.2
  ·exact d512.n.run _)
end Go.Proofs.YthlmepolmemejaaGreatDoor
