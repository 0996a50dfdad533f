/- beaconlaw14.made: walk. -/
import Derived.Test.YthlmepolmemejaaGreatDoorLFo
import Derived.Test.YthlmepolmemejaaGreatDoorLChnE
set_option linter.unusedSimpArgs false
set_option linter.unusedVariables false
namespace Go.Proofs.YthlmepolmemejaaGreatDoor
open Go Go.Eng Go.RowKit
set_option maxRecDepth 100000
theorem lK:∀{a b:Cst},Holds a→Holds b→Holds (a++b)
 | [],_,_,h=>h
 | _::_,_,ha,hb=>⟨ha.1,lK ha.2 hb⟩
def b32v (b:B32):List Value:=b.to.map (Value.int .u8)
theorem jG (b:B32):(b32v b).length=32:=rfl
abbrev bD (l:List B32):List Value:=l.flatMap b32v
theorem ld_b32 (l:List B32) {i:Nat} (hi:i<l.length):SV.o (.g (bR (bD l) (i*32) 32))=ak.enc (l.getD i aM):=by
 have h:=sw jG l aM 0 32 hi (by omega)
 rw[Nat.add_zero] at h
 rw[h,List.drop_zero,List.take_of_length_le (by rw[jG];omega)]
 rfl
def epM (E:List Int):Nat→Int
 | 0=>0
 | i+1=>bif decide (((i+1:Nat):Int)≤E.length) then IntKind.u64.wrap (IntKind.u64.wrap (epM E i+1)+IntKind.u64.wrap (E.getD i 0)) else IntKind.u64.wrap (epM E i+1)
noncomputable def mkC (C:B32→Keys→Int→Cert) (S:List B32) (E:List Int) (i:Nat):Cert:=C (S.getD i aM) (bI (S.getD (i+1) aM) ((i+1:Nat):Int)) (epM E (i+1))
noncomputable def mkL (C:B32→Keys→Int→Cert) (S:List B32) (E:List Int):Nat→List Cert
 | 0=>[]
 | i+1=>mkL C S E i++[mkC C S E i]
theorem uh (C:B32→Keys→Int→Cert) (S:List B32) (E:List Int):∀i,(mkL C S E i).length=i
 | 0=>rfl
 | i+1=>by rw[mkL,List.length_append,uh C S E i];rfl
theorem cvals_snoc (l:List Cert) (k:Cert):aA (l++[k])=aA l++k.vals:=by simp[aA]
theorem mk_len (C:B32→Keys→Int→Cert) (S:List B32) (E:List Int) (i:Nat):(aA (mkL C S E i)).length=i*130:=by rw[aA,fG Cert.fE,uh]
theorem oneC (k:Cert):∀v∈k.vals,v.oneCell'=true:=by
 intro v hv
 unfold Cert.vals at hv
 rcases List.mem_append.1 hv with h | h
 ·exact oneV _ v h
 ·rcases List.mem_cons.1 h with rfl | h
  ·rfl
  ·obtain⟨x,_,rfl⟩:=List.mem_map.1 h
   rfl
theorem keysV_gen (b:B32) (g:Int):(bI b g).gen=g:=rfl
theorem u64_wr (x:Int):U64 (IntKind.u64.wrap x):=by
 rw[IntKind.wrap_u64]
 unfold U64
 omega
theorem vJ (C:B32→Keys→Int→Cert) (S:List B32) (E:List Int) (i:Nat):aA (mkL C S E (i+1))=aA (mkL C S E i)++(mkC C S E i).vals:=by rw[mkL,cvals_snoc]
theorem epM_u (E:List Int):∀i,U64 (epM E i)
 | 0=>⟨Int.le_refl _,(by decide:(0:Int)<18446744073709551616)⟩
 | i+1=>by
  unfold epM
  cases decide (((i+1:Nat):Int)≤E.length)
  ·exact u64_wr _
  ·exact u64_wr _
theorem roomC (n:Nat) (h:n≤1000000):Room Tryz.prog 39 n:=kcp.roomC n h
def mkN (n:Nat):Nat:=min (n-1) 5
noncomputable def madQ (C:B32→Keys→Int→Cert) (S:List B32) (E:List Int) (n:Nat) (r:SV) (m:List Blk):Prop:=
 (mkN n=0∧bA (.t [.g (bI (S.getD 0 aM) 0).row,.a (.v (.slice none 0 0))]) .none r m)∨(0<mkN n∧bA (.t [.g (bI (S.getD 0 aM) 0).row,.a (.slg 0 (mkN n))]) (.new 39 (.grv 130 (aA (mkL C S E (mkN n))) (mkN n) none)) r m)
namespace mad
noncomputable abbrev fn:=Tryz.f7
noncomputable def body:Code:=bZ fn
noncomputable def A1:Code:=cs1 (cs1 (bY 6 body))
noncomputable def L:Code:=cL (cB (cs2 (cs1 (bY 6 body))))
noncomputable def D:Code:=cs2 (bY 6 body)
theorem fV:bY 6 body= .seq (.seq A1 (.block 0 (.loop L))) D:=by kernel_rfl
noncomputable def Γ (C:B32→Keys→Int→Cert) (hC:C=bQ):Cons Tryz.prog G3:=[rpubK_con,rcert_con C hC]
namespace ww
def M0 (n c:Nat) (m d:Nat):List (Option SV):=aJ 62 0 [(0,.o (.a (.sld 0 0 0 n c))),(1,.o (.a (.sld 1 0 0 m d))),(4,.o (.a (.ptr 2 0))),(7,.o (.a (.ptr 4 0))),(8,.o (.a (.v (.slice none 0 0)))),(9,.o (.a (aB .u64 0)))]
def M1 (n c:Nat) (m d:Nat):List (Option SV):=aJ 62 0 [(0,.o (.a (.sld 0 0 0 n c))),(1,.o (.a (.sld 1 0 0 m d))),(4,.o (.a (.ptr 2 0))),(7,.o (.a (.ptr 4 0))),(8,.o (.a (.v (.slice none 0 0)))),(9,.o (.a (aB .u64 0))),(10,.o (.a (.v (.int .i64 1))))]
def M2 (n c:Nat) (m d:Nat) (r:Nat) (e j:Int):List (Option SV):=aJ 62 0 [(0,.o (.a (.sld 0 0 0 n c))),(1,.o (.a (.sld 1 0 0 m d))),(4,.o (.a (.ptr 2 0))),(7,.o (.a (.ptr 4 0))),(8,.o (.a (.slg 5 r))),(9,.o (.a (aB .u64 e))),(10,.o (.a (.v (.int .i64 j))))]
def MD1:List (Option SV):=aJ 62 0 [(4,.o (.a (.ptr 2 0))),(7,.o (.a (.ptr 4 0))),(8,.o (.a (.v (.slice none 0 0))))]
def MD2 (r:Nat):List (Option SV):=aJ 62 0 [(4,.o (.a (.ptr 2 0))),(7,.o (.a (.ptr 4 0))),(8,.o (.a (.slg 5 r)))]
def MZ1:List (Option SV):=aJ 62 0 [(4,.o (.a (.ptr 2 0))),(5,.o (.a (.v (.slice none 0 0))))]
def MZ2 (r:Nat):List (Option SV):=aJ 62 0 [(4,.o (.a (.ptr 2 0))),(5,.o (.a (.slg 5 r)))]
section
variable (S:List B32)
def mem1 (ty:TypeId) (E:List Int) (ty':TypeId) (z k:Keys) (x0:B32):List Blk:=[⟨false,ty,.prv (bD S)⟩,⟨false,ty',.pre .u8 E⟩,⟨true,28,.lit z.row⟩,⟨true,26,.lit (ak.row x0)⟩,⟨true,28,.lit k.row⟩]
def mem2 (ty:TypeId) (E:List Int) (ty':TypeId) (z k:Keys) (x0:B32) (vs:List Value) (lo:Nat) (hi:Option Nat):List Blk:=mem1 S ty E ty' z k x0++[⟨true,39,.grv 130 vs lo hi⟩]
theorem qN (n c:Nat) (ty:TypeId) (E:List Int) (m d:Nat) (ty':TypeId) (z k:Keys) (x0:B32):oI (M0 n c m d) (mem1 S ty E ty' z k x0):=by delta oI;kernel_rfl
theorem tH (n c:Nat) (ty:TypeId) (E:List Int) (m d:Nat) (ty':TypeId) (z k:Keys) (x0:B32):oI (M1 n c m d) (mem1 S ty E ty' z k x0):=by delta oI;kernel_rfl
theorem qA (ty:TypeId) (E:List Int) (ty':TypeId) (z k:Keys) (x0:B32):oI (MD1) (mem1 S ty E ty' z k x0):=by delta oI;kernel_rfl
theorem qw (ty:TypeId) (E:List Int) (ty':TypeId) (z k:Keys) (x0:B32):oI (MZ1) (mem1 S ty E ty' z k x0):=by delta oI;kernel_rfl
theorem mg (n c:Nat) (ty:TypeId) (E:List Int) (m d:Nat) (ty':TypeId) (z k:Keys) (x0:B32) (vs:List Value) (lo:Nat) (hi:Option Nat) (r:Nat) (e j:Int):oI (M2 n c m d r e j) (mem2 S ty E ty' z k x0 vs lo hi):=by delta oI;kernel_rfl
theorem tF (ty:TypeId) (E:List Int) (ty':TypeId) (z k:Keys) (x0:B32) (vs:List Value) (lo:Nat) (hi:Option Nat) (r:Nat):oI (MD2 r) (mem2 S ty E ty' z k x0 vs lo hi):=by delta oI;kernel_rfl
theorem wB (ty:TypeId) (E:List Int) (ty':TypeId) (z k:Keys) (x0:B32) (vs:List Value) (lo:Nat) (hi:Option Nat) (r:Nat):oI (MZ2 r) (mem2 S ty E ty' z k x0 vs lo hi):=by delta oI;kernel_rfl
end
section
variable (C:B32→Keys→Int→Cert)
theorem s0 (hC:C=bQ) (S:List B32) (n c:Nat) (ty:TypeId) (E:List Int) (m d:Nat) (ty':TypeId) (x0:B32) (k:Keys):oX (Γ C hC) 100 (dU 6 body) (aH fn [.o (.a (.sld 0 0 0 n c)),.o (.a (.sld 1 0 0 m d))]) [⟨false,ty,.prv (bD S)⟩,⟨false,ty',.pre .u8 E⟩] [(13,[.b true]),(16,[.ds (ak.enc x0)]),(18,[.s (aO.enc k)])] .normal (M0 n c m d) (mem1 S ty E ty' zk k x0) [decide ((n:Int)>0)=true,(0:Int)≤0,(0:Int)<n,(0+aP 0 0 32)+32≤(bD S).length,SV.o (.g (bR (bD S) (0+aP 0 0 32) 32))=ak.enc x0,BOk x0,aO.enc (bI x0 0)=aO.enc k]:=by delta oX;kernel_rfl
theorem s0z (hC:C=bQ) (S:List B32) (n c:Nat) (ty:TypeId) (E:List Int) (m d:Nat) (ty':TypeId) (k:Keys):oX (Γ C hC) 100 (dU 6 body) (aH fn [.o (.a (.sld 0 0 0 n c)),.o (.a (.sld 1 0 0 m d))]) [⟨false,ty,.prv (bD S)⟩,⟨false,ty',.pre .u8 E⟩] [(13,[.b false]),(18,[.s (aO.enc k)])] .normal (M0 n c m d) (mem1 S ty E ty' zk k aM) [decide ((n:Int)>0)=false,BOk aM,aO.enc (bI aM 0)=aO.enc k]:=by delta oX;kernel_rfl
theorem a1 (hC:C=bQ) (S:List B32) (n c:Nat) (ty:TypeId) (E:List Int) (m d:Nat) (ty':TypeId) (z k:Keys) (x0:B32) (g:Nat→SV):oX (Γ C hC) 100 A1 (fill g 0 (M0 n c m d )) (mem1 S ty E ty' z k x0) [] .normal (M1 n c m d) (mem1 S ty E ty' z k x0) []:=by delta oX;kernel_rfl
abbrev kt (hC:C=bQ) (S:List B32) (n c:Nat) (ty:TypeId) (E:List Int) (m d:Nat) (ty':TypeId) (e jm e1 e2 j:Int) (x y:B32) (kk:Keys) (cc:Cert):Cst:=[decide ((j:Int)<n)=true,decide ((j:Int)<6)=true,IntKind.u64.wrap (e+1)=e1,decide ((j:Int)≤m)=true,IntKind.i64.wrap (j-1)=jm,0≤jm,jm<m,aP 0 jm 1<E.length,IntKind.u64.wrap (e1+IntKind.u64.wrap (E.getD (aP 0 jm 1) 0))=e2,IntKind.i64.wrap (j-1)=jm,0≤jm,jm<n,(0+aP 0 jm 32)+32≤(bD S).length,SV.o (.g (bR (bD S) (0+aP 0 jm 32) 32))=ak.enc x,(0:Int)≤j,(j:Int)<n,(0+aP 0 j 32)+32≤(bD S).length,SV.o (.g (bR (bD S) (0+aP 0 j 32) 32))=ak.enc y,BOk y,aO.enc (bI y (IntKind.u64.wrap j))=aO.enc kk,BOk x,U64 kk.gen,U64 e2,bK.enc (C x kk e2)=bK.enc cc]
theorem got_1 (hC:C=bQ) (S:List B32) (n c:Nat) (ty:TypeId) (E:List Int) (m d:Nat) (ty':TypeId) (z k:Keys) (x0:B32) (jm e1 e2 jn:Int) (x y:B32) (kk:Keys) (cc:Cert) (g:Nat→SV):oN [0,1,2,3,4,6] (Γ C hC) 100 L (fill g 0 (M1 n c m d )) (mem1 S ty E ty' z k x0) [(22,[.b true]),(25,[.b true]),(30,[.n e1]),(34,[.b true]),(38,[.n jm]),(42,[.n e2]),(46,[.n jm]),(48,[.ds (ak.enc x)]),(52,[.ds (ak.enc y)]),(55,[.s (aO.enc kk)]),(57,[.s (bK.enc cc)]),(28,[.n jn])] .normal (M2 n c m d 1 e2 jn) (mem2 S ty E ty' z k x0 cc.vals 1 none) (kt C hC S n c ty E m d ty' 0 jm e1 e2 1 x y kk cc++[0+0+1*130≤cc.row.length,0<1,Room Tryz.prog 39 1,IntKind.i64.wrap (1+1)=jn]):=by delta oN;kernel_rfl
theorem got_2 (hC:C=bQ) (S:List B32) (n c:Nat) (ty:TypeId) (E:List Int) (m d:Nat) (ty':TypeId) (z k:Keys) (x0:B32) (vs:List Value) (r:Nat) (e j:Int) (jm e1 e2 jn:Int) (x y:B32) (kk:Keys) (cc:Cert) (g:Nat→SV):oX (Γ C hC) 100 L (fill g 0 (M2 n c m d r e j)) (mem2 S ty E ty' z k x0 vs (r+1) none) [(22,[.b true]),(25,[.b true]),(30,[.n e1]),(34,[.b true]),(38,[.n jm]),(42,[.n e2]),(46,[.n jm]),(48,[.ds (ak.enc x)]),(52,[.ds (ak.enc y)]),(55,[.s (aO.enc kk)]),(57,[.s (bK.enc cc)]),(28,[.n jn])] .normal (M2 n c m d (r+1) e2 jn) (mem2 S ty E ty' z k x0 (vs++cc.vals) (r+1) none) (kt C hC S n c ty E m d ty' e jm e1 e2 j x y kk cc++[0+0+1*130≤cc.row.length,r*130=vs.length,r+1≤r+1,∀v∈cc.vals,v.oneCell'=true,IntKind.i64.wrap (j+1)=jn]):=by delta oX;kernel_rfl
theorem grt_2 (hC:C=bQ) (S:List B32) (n c:Nat) (ty:TypeId) (E:List Int) (m d:Nat) (ty':TypeId) (z k:Keys) (x0:B32) (vs:List Value) (r lo:Nat) (e j:Int) (jm e1 e2 jn:Int) (x y:B32) (kk:Keys) (cc:Cert) (g:Nat→SV):oN [0,1,2,3,4,7] (Γ C hC) 100 L (fill g 0 (M2 n c m d r e j)) (mem2 S ty E ty' z k x0 vs lo (some (r+1))) [(22,[.b true]),(25,[.b true]),(30,[.n e1]),(34,[.b true]),(38,[.n jm]),(42,[.n e2]),(46,[.n jm]),(48,[.ds (ak.enc x)]),(52,[.ds (ak.enc y)]),(55,[.s (aO.enc kk)]),(57,[.s (bK.enc cc)]),(28,[.n jn])] .normal (M2 n c m d (r+1) e2 jn) (mem2 S ty E ty' z k x0 (vs++cc.vals) (r+1) none) (kt C hC S n c ty E m d ty' e jm e1 e2 j x y kk cc++[0+0+1*130≤cc.row.length,r*130=vs.length,r+1≤r+1,Room Tryz.prog 39 (r+1),IntKind.i64.wrap (j+1)=jn]):=by delta oN;kernel_rfl
abbrev kf (hC:C=bQ) (S:List B32) (n c:Nat) (ty:TypeId) (E:List Int) (m d:Nat) (ty':TypeId) (e jm e1 e2 j:Int) (x y:B32) (kk:Keys) (cc:Cert):Cst:=[decide ((j:Int)<n)=true,decide ((j:Int)<6)=true,IntKind.u64.wrap (e+1)=e1,decide ((j:Int)≤m)=false,IntKind.i64.wrap (j-1)=jm,0≤jm,jm<n,(0+aP 0 jm 32)+32≤(bD S).length,SV.o (.g (bR (bD S) (0+aP 0 jm 32) 32))=ak.enc x,(0:Int)≤j,(j:Int)<n,(0+aP 0 j 32)+32≤(bD S).length,SV.o (.g (bR (bD S) (0+aP 0 j 32) 32))=ak.enc y,BOk y,aO.enc (bI y (IntKind.u64.wrap j))=aO.enc kk,BOk x,U64 kk.gen,U64 e1,bK.enc (C x kk e1)=bK.enc cc]
theorem gof_1 (hC:C=bQ) (S:List B32) (n c:Nat) (ty:TypeId) (E:List Int) (m d:Nat) (ty':TypeId) (z k:Keys) (x0:B32) (jm e1 e2 jn:Int) (x y:B32) (kk:Keys) (cc:Cert) (g:Nat→SV):oN [0,1,2,3,4,6] (Γ C hC) 100 L (fill g 0 (M1 n c m d )) (mem1 S ty E ty' z k x0) [(22,[.b true]),(25,[.b true]),(30,[.n e1]),(34,[.b false]),(46,[.n jm]),(48,[.ds (ak.enc x)]),(52,[.ds (ak.enc y)]),(55,[.s (aO.enc kk)]),(57,[.s (bK.enc cc)]),(28,[.n jn])] .normal (M2 n c m d 1 e1 jn) (mem2 S ty E ty' z k x0 cc.vals 1 none) (kf C hC S n c ty E m d ty' 0 jm e1 e2 1 x y kk cc++[0+0+1*130≤cc.row.length,0<1,Room Tryz.prog 39 1,IntKind.i64.wrap (1+1)=jn]):=by delta oN;kernel_rfl
theorem gof_2 (hC:C=bQ) (S:List B32) (n c:Nat) (ty:TypeId) (E:List Int) (m d:Nat) (ty':TypeId) (z k:Keys) (x0:B32) (vs:List Value) (r:Nat) (e j:Int) (jm e1 e2 jn:Int) (x y:B32) (kk:Keys) (cc:Cert) (g:Nat→SV):oX (Γ C hC) 100 L (fill g 0 (M2 n c m d r e j)) (mem2 S ty E ty' z k x0 vs (r+1) none) [(22,[.b true]),(25,[.b true]),(30,[.n e1]),(34,[.b false]),(46,[.n jm]),(48,[.ds (ak.enc x)]),(52,[.ds (ak.enc y)]),(55,[.s (aO.enc kk)]),(57,[.s (bK.enc cc)]),(28,[.n jn])] .normal (M2 n c m d (r+1) e1 jn) (mem2 S ty E ty' z k x0 (vs++cc.vals) (r+1) none) (kf C hC S n c ty E m d ty' e jm e1 e2 j x y kk cc++[0+0+1*130≤cc.row.length,r*130=vs.length,r+1≤r+1,∀v∈cc.vals,v.oneCell'=true,IntKind.i64.wrap (j+1)=jn]):=by delta oX;kernel_rfl
theorem grf_2 (hC:C=bQ) (S:List B32) (n c:Nat) (ty:TypeId) (E:List Int) (m d:Nat) (ty':TypeId) (z k:Keys) (x0:B32) (vs:List Value) (r lo:Nat) (e j:Int) (jm e1 e2 jn:Int) (x y:B32) (kk:Keys) (cc:Cert) (g:Nat→SV):oN [0,1,2,3,4,7] (Γ C hC) 100 L (fill g 0 (M2 n c m d r e j)) (mem2 S ty E ty' z k x0 vs lo (some (r+1))) [(22,[.b true]),(25,[.b true]),(30,[.n e1]),(34,[.b false]),(46,[.n jm]),(48,[.ds (ak.enc x)]),(52,[.ds (ak.enc y)]),(55,[.s (aO.enc kk)]),(57,[.s (bK.enc cc)]),(28,[.n jn])] .normal (M2 n c m d (r+1) e1 jn) (mem2 S ty E ty' z k x0 (vs++cc.vals) (r+1) none) (kf C hC S n c ty E m d ty' e jm e1 e2 j x y kk cc++[0+0+1*130≤cc.row.length,r*130=vs.length,r+1≤r+1,Room Tryz.prog 39 (r+1),IntKind.i64.wrap (j+1)=jn]):=by delta oN;kernel_rfl
theorem vX (hC:C=bQ) (S:List B32) (n c:Nat) (ty:TypeId) (E:List Int) (m d:Nat) (ty':TypeId) (z k:Keys) (x0:B32) (g:Nat→SV):oX (Γ C hC) 100 L (fill g 0 (M1 n c m d )) (mem1 S ty E ty' z k x0) [(22,[.b false])] (.exit 0) (MD1) (mem1 S ty E ty' z k x0) [decide ((1:Int)<n)=false]:=by delta oX;kernel_rfl
theorem outa_2 (hC:C=bQ) (S:List B32) (n c:Nat) (ty:TypeId) (E:List Int) (m d:Nat) (ty':TypeId) (z k:Keys) (x0:B32) (vs:List Value) (lo:Nat) (hi:Option Nat) (r:Nat) (e j:Int) (g:Nat→SV):oX (Γ C hC) 100 L (fill g 0 (M2 n c m d r e j)) (mem2 S ty E ty' z k x0 vs lo hi) [(22,[.b false])] (.exit 0) (MD2 r) (mem2 S ty E ty' z k x0 vs lo hi) [decide ((j:Int)<n)=false]:=by delta oX;kernel_rfl
theorem outb_2 (hC:C=bQ) (S:List B32) (n c:Nat) (ty:TypeId) (E:List Int) (m d:Nat) (ty':TypeId) (z k:Keys) (x0:B32) (vs:List Value) (lo:Nat) (hi:Option Nat) (r:Nat) (e j:Int) (g:Nat→SV):oX (Γ C hC) 100 L (fill g 0 (M2 n c m d r e j)) (mem2 S ty E ty' z k x0 vs lo hi) [(22,[.b true]),(25,[.b false])] (.exit 0) (MD2 r) (mem2 S ty E ty' z k x0 vs lo hi) [decide ((j:Int)<n)=true,decide ((j:Int)<6)=false]:=by delta oX;kernel_rfl
theorem tL (hC:C=bQ) (S:List B32) (ty:TypeId) (E:List Int) (ty':TypeId) (z k:Keys) (x0:B32) (g:Nat→SV):oX (Γ C hC) 100 D (fill g 0 (MD1 )) (mem1 S ty E ty' z k x0) [] .ret (MZ1) (mem1 S ty E ty' k k x0) []:=by delta oX;kernel_rfl
theorem fin_2 (hC:C=bQ) (S:List B32) (ty:TypeId) (E:List Int) (ty':TypeId) (z k:Keys) (x0:B32) (vs:List Value) (lo:Nat) (hi:Option Nat) (r:Nat) (g:Nat→SV):oX (Γ C hC) 100 D (fill g 0 (MD2 r)) (mem2 S ty E ty' z k x0 vs lo hi) [] .ret (MZ2 r) (mem2 S ty E ty' k k x0 vs lo hi) []:=by delta oX;kernel_rfl
end
theorem zr1 (S:List B32) (ty:TypeId) (E:List Int) (ty':TypeId) (z k:Keys) (x0:B32) (g:Nat→SV):eRes tys (fill g 0 (MZ1 )) (fun q=>(mem1 S ty E ty' z k x0)[q]?) fn.results.toList=some [.g z.row,.a (.v (.slice none 0 0))]:=by kernel_rfl
theorem zr2 (S:List B32) (ty:TypeId) (E:List Int) (ty':TypeId) (z k:Keys) (x0:B32) (vs:List Value) (lo:Nat) (hi:Option Nat) (r:Nat) (g:Nat→SV):eRes tys (fill g 0 (MZ2 r)) (fun q=>(mem2 S ty E ty' z k x0 vs lo hi)[q]?) fn.results.toList=some [.g z.row,.a (.slg 5 r)]:=by kernel_rfl
noncomputable def Mx (n c:Nat) (E:List Int) (m d:Nat):Nat→List (Option SV)
 | 0=>M1 n c m d
 | i+1=>M2 n c m d (i+1) (epM E (i+1)) ((i+2:Nat):Int)
noncomputable def Bx (C:B32→Keys→Int→Cert) (S:List B32) (ty:TypeId) (E:List Int) (ty':TypeId) (k:Keys) (x0:B32):Nat→List Blk
 | 0=>mem1 S ty E ty' zk k x0
 | i+1=>mem2 S ty E ty' zk k x0 (aA (mkL C S E (i+1))) (i+1) none
theorem cont (C:B32→Keys→Int→Cert) (hC:C=bQ) (S:List B32) (n c:Nat) (ty:TypeId) (E:List Int) (m d:Nat) (ty':TypeId) (x0:B32) (hn:S.length=n) (hE:E.length=m) (hm:n≤9223372036854775807) (hS:∀i,i<n→BOk (S.getD i aM)) (h0:x0=S.getD 0 aM) (g:Nat→SV):
  aK Tryz.prog G3 2 (bY 6 body) (fill g 0 (M0 n c m d )) (mem1 S ty E ty' zk (bI x0 0) x0) (aN tys fn (madQ C S E n)):=by
 generalize hk:bI x0 0=k
 have hkk:k=bI (S.getD 0 aM) 0:=by rw[←hk,h0]
 have hl:(bD S).length=n*32:=by rw[←hn];exact fG jG S
 have hA:∀i:Nat,i<n→0+aP 0 (i:Int) 32+32≤(bD S).length:=fun i h=>by
  have:=Nat.mul_le_mul_right 32 (show i+1≤n by omega)
  rw[lT,hl];omega
 have hB:∀i:Nat,i<n→SV.o (.g (bR (bD S) (0+aP 0 (i:Int) 32) 32))=ak.enc (S.getD i aM):=fun i h=>by
  rw[lT];exact ld_b32 S (by omega)
 have ho:∀i:Nat,aP 0 (i:Int) 1=i:=fun i=>by rw[lN];simp
 rw[fV]
 refine Runs.seq (Runs.seq (Runs.au ah mixed (a1 C hC S n c ty E m d ty' _ _ _ g) trivial (tH S n c ty E m d ty' _ _ _) rfl fun g=> ?_))
 refine Runs.block ?_
 refine Runs.dS (Mx n c E m d ) (Bx C S ty E ty' k x0) (fun i=>i≤mkN n) (fun i=>5-i) ?_ 0 (Nat.zero_le _) g
 rintro i g hi
 have h5:mkN n≤5:=by unfold mkN;omega
 have h6:mkN n≤n-1:=by unfold mkN;omega
 by_cases hin:mkN n=i
 ·cases i with
  | zero=>
   have hn1:n≤1:=by unfold mkN at hin;omega
   refine Runs.au ah mixed (vX C hC S n c ty E m d ty' _ _ _ g) ⟨decide_eq_false (by omega),trivial⟩ (qA S ty E ty' _ _ _) rfl fun g=> ?_
   show aK _ _ _ _ _ _ _
   exact Runs.au ah mixed (tL C hC S ty E ty' _ _ _ g) trivial (qw S ty E ty' _ _ _) rfl fun g=>aN.ret (zr1 S ty E ty' _ _ _ g) (.inl ⟨hin,by rw[hkk];rfl⟩)
  | succ i=>
   have hfin:∀g,aK Tryz.prog G3 2 D (fill g 0 (MD2 (i+1))) (mem2 S ty E ty' zk k x0 (aA (mkL C S E (i+1))) (i+1) none) (aN tys fn (madQ C S E n)):=fun g=>
    Runs.au ah mixed (fin_2 C hC S ty E ty' _ _ _ _ _ _ _ g) trivial (wB S ty E ty' _ _ _ _ _ _ _) rfl fun g=>aN.ret (zr2 S ty E ty' _ _ _ _ _ _ _ g) (.inr ⟨by omega,5,by rw[hkk,hin];rfl,by rw[hin];rfl⟩)
   by_cases hs:i+2<n
   ·have hi5:i+2=6:=by unfold mkN at hin;omega
    refine Runs.au ah mixed (outb_2 C hC S n c ty E m d ty' _ _ _ _ _ _ _ _ _ g) ⟨decide_eq_true (by omega),decide_eq_false (by omega),trivial⟩ (tF S ty E ty' _ _ _ _ _ _ _) rfl fun g=>hfin g
   ·refine Runs.au ah mixed (outa_2 C hC S n c ty E m d ty' _ _ _ _ _ _ _ _ _ g) ⟨decide_eq_false (by omega),trivial⟩ (tF S ty E ty' _ _ _ _ _ _ _) rfl fun g=>hfin g
 ·have hi':i<mkN n:=by omega
  have hj:i+1<n:=by omega
  have hwj:IntKind.u64.wrap ((i+1:Nat):Int)=((i+1:Nat):Int):=by rw[IntKind.wrap_u64];omega
  have hjm:IntKind.i64.wrap (((i+1:Nat):Int)-1)=(i:Int):=by rw[IntKind.wrap_i64];omega
  have hjn:IntKind.i64.wrap (((i+1:Nat):Int)+1)=((i+2:Nat):Int):=by rw[IntKind.wrap_i64];omega
  have hg:U64 (bI (S.getD (i+1) aM) ((i+1:Nat):Int)).gen:=by rw[keysV_gen];exact⟨by omega,by omega⟩
  have hky:aO.enc (bI (S.getD (i+1) aM) (IntKind.u64.wrap ((i+1:Nat):Int)))=aO.enc (bI (S.getD (i+1) aM) ((i+1:Nat):Int)):=by rw[hwj]
  have hb1:=hS i (by omega)
  have hb2:=hS (i+1) hj
  have hep:=epM_u E (i+1)
  cases dq:decide (((i+1:Nat):Int)≤E.length) with
  | true=>
    have hle:i+1≤E.length:=by have:=of_decide_eq_true dq;omega
    have hlo:aP 0 (i:Int) 1<E.length:=by rw[ho];omega
    have he2:IntKind.u64.wrap (IntKind.u64.wrap (epM E i+1)+IntKind.u64.wrap (E.getD (aP 0 (i:Int) 1) 0))=epM E (i+1):=by rw[epM,dq,cond_true,ho]
    have hK:Holds (kt C hC S n c ty E m d ty' (epM E i) (i:Int) (IntKind.u64.wrap (epM E i+1)) (epM E (i+1)) ((i+1:Nat):Int) (S.getD i aM) (S.getD (i+1) aM) (bI (S.getD (i+1) aM) ((i+1:Nat):Int)) (mkC C S E i)):=⟨decide_eq_true (by omega),decide_eq_true (by omega),rfl,(by rw[←hE];exact dq),hjm,by omega,by omega,hlo,he2,hjm,by omega,by omega,hA _ (by omega),hB _ (by omega),by omega,by omega,hA (i+1) hj,hB (i+1) hj,hb2,hky,hb1,hg,hep,rfl,trivial⟩
    cases i with
    | zero=>
     refine Runs.bW ah mixed _ (got_1 C hC S n c ty E m d ty' zk k x0 0 (IntKind.u64.wrap (epM E 0+1)) (epM E (0+1)) ((0+2:Nat):Int) (S.getD 0 aM) (S.getD (0+1) aM) (bI (S.getD (0+1) aM) ((0+1:Nat):Int)) (mkC C S E 0) g) (lK hK ⟨by show 130≤130;omega,by omega,roomC _ (by omega),hjn,trivial⟩) (mg S n c ty E m d ty' _ _ _ _ _ _ _ _ _) rfl fun g=> ?_
     refine⟨1,g,rfl,?_,by omega,by omega⟩
     have hkv:(mkC C S E 0).vals=aA (mkL C S E (0+1)):=by rw[vJ];rfl
     rw[hkv];rfl
    | succ i=>
     have hkv:=vJ C S E (i+1)
     have hk:=mk_len C S E (i+1)
     refine Runs.roomV 5 (i+1+1) (own:=true) (ty:=39) (s:=130) (vs:=aA (mkL C S E (i+1))) (lo:=i+1) rfl ?_ ?_
     ·refine Runs.au ah mixed (got_2 C hC S n c ty E m d ty' zk k x0 (aA (mkL C S E (i+1))) (i+1) (epM E (i+1)) ((i+1+1:Nat):Int) ((i+1:Nat):Int) (IntKind.u64.wrap (epM E (i+1)+1)) (epM E (i+1+1)) ((i+1+2:Nat):Int) (S.getD (i+1) aM) (S.getD (i+1+1) aM) (bI (S.getD (i+1+1) aM) ((i+1+1:Nat):Int)) (mkC C S E (i+1)) g) (lK hK ⟨by show 130≤130;omega,by rw[hk],Nat.le_refl _,oneC _,hjn,trivial⟩) (mg S n c ty E m d ty' _ _ _ _ _ _ _ _ _) rfl fun g=> ?_
      refine⟨i+1+1,g,rfl,?_,by omega,by omega⟩
      rw[←hkv];rfl
     ·refine Runs.bW ah mixed _ (grt_2 C hC S n c ty E m d ty' zk k x0 (aA (mkL C S E (i+1))) (i+1) (i+1) (epM E (i+1)) ((i+1+1:Nat):Int) ((i+1:Nat):Int) (IntKind.u64.wrap (epM E (i+1)+1)) (epM E (i+1+1)) ((i+1+2:Nat):Int) (S.getD (i+1) aM) (S.getD (i+1+1) aM) (bI (S.getD (i+1+1) aM) ((i+1+1:Nat):Int)) (mkC C S E (i+1)) g) (lK hK ⟨by show 130≤130;omega,by rw[hk],Nat.le_refl _,roomC _ (by omega),hjn,trivial⟩) (mg S n c ty E m d ty' _ _ _ _ _ _ _ _ _) rfl fun g=> ?_
      refine⟨i+1+1,g,rfl,?_,by omega,by omega⟩
      rw[←hkv];rfl
  | false=>
    have he1:IntKind.u64.wrap (epM E i+1)=epM E (i+1):=by rw[epM,dq,cond_false]
    have hK:Holds (kf C hC S n c ty E m d ty' (epM E i) (i:Int) (epM E (i+1)) (epM E (i+1)) ((i+1:Nat):Int) (S.getD i aM) (S.getD (i+1) aM) (bI (S.getD (i+1) aM) ((i+1:Nat):Int)) (mkC C S E i)):=⟨decide_eq_true (by omega),decide_eq_true (by omega),he1,(by rw[←hE];exact dq),hjm,by omega,by omega,hA _ (by omega),hB _ (by omega),by omega,by omega,hA (i+1) hj,hB (i+1) hj,hb2,hky,hb1,hg,hep,rfl,trivial⟩
    cases i with
    | zero=>
     refine Runs.bW ah mixed _ (gof_1 C hC S n c ty E m d ty' zk k x0 0 (epM E (0+1)) (epM E (0+1)) ((0+2:Nat):Int) (S.getD 0 aM) (S.getD (0+1) aM) (bI (S.getD (0+1) aM) ((0+1:Nat):Int)) (mkC C S E 0) g) (lK hK ⟨by show 130≤130;omega,by omega,roomC _ (by omega),hjn,trivial⟩) (mg S n c ty E m d ty' _ _ _ _ _ _ _ _ _) rfl fun g=> ?_
     refine⟨1,g,rfl,?_,by omega,by omega⟩
     have hkv:(mkC C S E 0).vals=aA (mkL C S E (0+1)):=by rw[vJ];rfl
     rw[hkv];rfl
    | succ i=>
     have hkv:=vJ C S E (i+1)
     have hk:=mk_len C S E (i+1)
     refine Runs.roomV 5 (i+1+1) (own:=true) (ty:=39) (s:=130) (vs:=aA (mkL C S E (i+1))) (lo:=i+1) rfl ?_ ?_
     ·refine Runs.au ah mixed (gof_2 C hC S n c ty E m d ty' zk k x0 (aA (mkL C S E (i+1))) (i+1) (epM E (i+1)) ((i+1+1:Nat):Int) ((i+1:Nat):Int) (epM E (i+1+1)) (epM E (i+1+1)) ((i+1+2:Nat):Int) (S.getD (i+1) aM) (S.getD (i+1+1) aM) (bI (S.getD (i+1+1) aM) ((i+1+1:Nat):Int)) (mkC C S E (i+1)) g) (lK hK ⟨by show 130≤130;omega,by rw[hk],Nat.le_refl _,oneC _,hjn,trivial⟩) (mg S n c ty E m d ty' _ _ _ _ _ _ _ _ _) rfl fun g=> ?_
      refine⟨i+1+1,g,rfl,?_,by omega,by omega⟩
      rw[←hkv];rfl
     ·refine Runs.bW ah mixed _ (grf_2 C hC S n c ty E m d ty' zk k x0 (aA (mkL C S E (i+1))) (i+1) (i+1) (epM E (i+1)) ((i+1+1:Nat):Int) ((i+1:Nat):Int) (epM E (i+1+1)) (epM E (i+1+1)) ((i+1+2:Nat):Int) (S.getD (i+1) aM) (S.getD (i+1+1) aM) (bI (S.getD (i+1+1) aM) ((i+1+1:Nat):Int)) (mkC C S E (i+1)) g) (lK hK ⟨by show 130≤130;omega,by rw[hk],Nat.le_refl _,roomC _ (by omega),hjn,trivial⟩) (mg S n c ty E m d ty' _ _ _ _ _ _ _ _ _) rfl fun g=> ?_
      refine⟨i+1+1,g,rfl,?_,by omega,by omega⟩
      rw[←hkv];rfl
theorem run (C:B32→Keys→Int→Cert) (hC:C=bQ) (S:List B32) (n c:Nat) (ty:TypeId) (E:List Int) (m d:Nat) (ty':TypeId) (hn:S.length=n) (hE:E.length=m) (hm:n≤9223372036854775807) (hS:∀i,i<n→BOk (S.getD i aM)) (hz:BOk aM):
  aK Tryz.prog G3 2 body (aH fn [.o (.a (.sld 0 0 0 n c)),.o (.a (.sld 1 0 0 m d))]) [⟨false,ty,.prv (bD S)⟩,⟨false,ty',.pre .u8 E⟩] (aN tys fn (madQ C S E n)):=by
 by_cases h0:n=0
 ·subst h0
  have e0:S.getD 0 aM=aM:=by rw[List.getD_eq_getElem?_getD,List.getElem?_eq_none (by omega)];rfl
  exact Runs.bS ah mixed 6 (s0z C hC S 0 c ty E m d ty' (bI aM 0)) ⟨decide_eq_false (by omega),hz,rfl,trivial⟩ (qN S 0 c ty E m d ty' _ _ _) rfl fun g=>cont C hC S 0 c ty E m d ty' aM hn hE hm hS e0.symm g
 ·have hl:(bD S).length=n*32:=by rw[←hn];exact fG jG S
  have hA:0+aP 0 (0:Int) 32+32≤(bD S).length:=by
   have:0+aP 0 ((0:Nat):Int) 32=0*32:=lT 0 32
   have e:aP 0 (0:Int) 32=aP 0 ((0:Nat):Int) 32:=rfl
   rw[e,hl];omega
  have hB:SV.o (.g (bR (bD S) (0+aP 0 (0:Int) 32) 32))=ak.enc (S.getD 0 aM):=by
   have h:=ld_b32 S (i:=0) (by omega)
   have e:0+aP 0 (0:Int) 32=0*32:=lT 0 32
   rw[e];exact h
  exact Runs.bS ah mixed 6 (s0 C hC S n c ty E m d ty' (S.getD 0 aM) (bI (S.getD 0 aM) 0)) ⟨decide_eq_true (by omega),by omega,by omega,hA,hB,hS 0 (by omega),rfl,trivial⟩ (qN S n c ty E m d ty' _ _ _) rfl fun g=>cont C hC S n c ty E m d ty' _ hn hE hm hS rfl g
end ww
namespace wv
def M0 (n c:Nat) (a:Option Addr):List (Option SV):=aJ 62 0 [(0,.o (.a (.sld 0 0 0 n c))),(1,.o (.a (.v (.slice a 0 0)))),(4,.o (.a (.ptr 1 0))),(7,.o (.a (.ptr 3 0))),(8,.o (.a (.v (.slice none 0 0)))),(9,.o (.a (aB .u64 0)))]
def M1 (n c:Nat) (a:Option Addr):List (Option SV):=aJ 62 0 [(0,.o (.a (.sld 0 0 0 n c))),(1,.o (.a (.v (.slice a 0 0)))),(4,.o (.a (.ptr 1 0))),(7,.o (.a (.ptr 3 0))),(8,.o (.a (.v (.slice none 0 0)))),(9,.o (.a (aB .u64 0))),(10,.o (.a (.v (.int .i64 1))))]
def M2 (n c:Nat) (a:Option Addr) (r:Nat) (e j:Int):List (Option SV):=aJ 62 0 [(0,.o (.a (.sld 0 0 0 n c))),(1,.o (.a (.v (.slice a 0 0)))),(4,.o (.a (.ptr 1 0))),(7,.o (.a (.ptr 3 0))),(8,.o (.a (.slg 4 r))),(9,.o (.a (aB .u64 e))),(10,.o (.a (.v (.int .i64 j))))]
def MD1 (a:Option Addr):List (Option SV):=aJ 62 0 [(4,.o (.a (.ptr 1 0))),(7,.o (.a (.ptr 3 0))),(8,.o (.a (.v (.slice none 0 0))))]
def MD2 (a:Option Addr) (r:Nat):List (Option SV):=aJ 62 0 [(4,.o (.a (.ptr 1 0))),(7,.o (.a (.ptr 3 0))),(8,.o (.a (.slg 4 r)))]
def MZ1 (a:Option Addr):List (Option SV):=aJ 62 0 [(4,.o (.a (.ptr 1 0))),(5,.o (.a (.v (.slice none 0 0))))]
def MZ2 (a:Option Addr) (r:Nat):List (Option SV):=aJ 62 0 [(4,.o (.a (.ptr 1 0))),(5,.o (.a (.slg 4 r)))]
section
variable (S:List B32)
def mem1 (ty:TypeId) (z k:Keys) (x0:B32):List Blk:=[⟨false,ty,.prv (bD S)⟩,⟨true,28,.lit z.row⟩,⟨true,26,.lit (ak.row x0)⟩,⟨true,28,.lit k.row⟩]
def mem2 (ty:TypeId) (z k:Keys) (x0:B32) (vs:List Value) (lo:Nat) (hi:Option Nat):List Blk:=mem1 S ty z k x0++[⟨true,39,.grv 130 vs lo hi⟩]
theorem qN (n c:Nat) (ty:TypeId) (a:Option Addr) (z k:Keys) (x0:B32):oI (M0 n c a) (mem1 S ty z k x0):=by delta oI;kernel_rfl
theorem tH (n c:Nat) (ty:TypeId) (a:Option Addr) (z k:Keys) (x0:B32):oI (M1 n c a) (mem1 S ty z k x0):=by delta oI;kernel_rfl
theorem qA (ty:TypeId) (a:Option Addr) (z k:Keys) (x0:B32):oI (MD1 a) (mem1 S ty z k x0):=by delta oI;kernel_rfl
theorem qw (ty:TypeId) (a:Option Addr) (z k:Keys) (x0:B32):oI (MZ1 a) (mem1 S ty z k x0):=by delta oI;kernel_rfl
theorem mg (n c:Nat) (ty:TypeId) (a:Option Addr) (z k:Keys) (x0:B32) (vs:List Value) (lo:Nat) (hi:Option Nat) (r:Nat) (e j:Int):oI (M2 n c a r e j) (mem2 S ty z k x0 vs lo hi):=by delta oI;kernel_rfl
theorem tF (ty:TypeId) (a:Option Addr) (z k:Keys) (x0:B32) (vs:List Value) (lo:Nat) (hi:Option Nat) (r:Nat):oI (MD2 a r) (mem2 S ty z k x0 vs lo hi):=by delta oI;kernel_rfl
theorem wB (ty:TypeId) (a:Option Addr) (z k:Keys) (x0:B32) (vs:List Value) (lo:Nat) (hi:Option Nat) (r:Nat):oI (MZ2 a r) (mem2 S ty z k x0 vs lo hi):=by delta oI;kernel_rfl
end
section
variable (C:B32→Keys→Int→Cert)
theorem s0 (hC:C=bQ) (S:List B32) (n c:Nat) (ty:TypeId) (a:Option Addr) (x0:B32) (k:Keys):oX (Γ C hC) 100 (dU 6 body) (aH fn [.o (.a (.sld 0 0 0 n c)),.o (.a (.v (.slice a 0 0)))]) [⟨false,ty,.prv (bD S)⟩] [(13,[.b true]),(16,[.ds (ak.enc x0)]),(18,[.s (aO.enc k)])] .normal (M0 n c a) (mem1 S ty zk k x0) [decide ((n:Int)>0)=true,(0:Int)≤0,(0:Int)<n,(0+aP 0 0 32)+32≤(bD S).length,SV.o (.g (bR (bD S) (0+aP 0 0 32) 32))=ak.enc x0,BOk x0,aO.enc (bI x0 0)=aO.enc k]:=by delta oX;kernel_rfl
theorem s0z (hC:C=bQ) (S:List B32) (n c:Nat) (ty:TypeId) (a:Option Addr) (k:Keys):oX (Γ C hC) 100 (dU 6 body) (aH fn [.o (.a (.sld 0 0 0 n c)),.o (.a (.v (.slice a 0 0)))]) [⟨false,ty,.prv (bD S)⟩] [(13,[.b false]),(18,[.s (aO.enc k)])] .normal (M0 n c a) (mem1 S ty zk k aM) [decide ((n:Int)>0)=false,BOk aM,aO.enc (bI aM 0)=aO.enc k]:=by delta oX;kernel_rfl
theorem a1 (hC:C=bQ) (S:List B32) (n c:Nat) (ty:TypeId) (a:Option Addr) (z k:Keys) (x0:B32) (g:Nat→SV):oX (Γ C hC) 100 A1 (fill g 0 (M0 n c a )) (mem1 S ty z k x0) [] .normal (M1 n c a) (mem1 S ty z k x0) []:=by delta oX;kernel_rfl
abbrev kf (hC:C=bQ) (S:List B32) (n c:Nat) (ty:TypeId) (a:Option Addr) (e jm e1 e2 j:Int) (x y:B32) (kk:Keys) (cc:Cert):Cst:=[decide ((j:Int)<n)=true,decide ((j:Int)<6)=true,IntKind.u64.wrap (e+1)=e1,decide ((j:Int)≤0)=false,IntKind.i64.wrap (j-1)=jm,0≤jm,jm<n,(0+aP 0 jm 32)+32≤(bD S).length,SV.o (.g (bR (bD S) (0+aP 0 jm 32) 32))=ak.enc x,(0:Int)≤j,(j:Int)<n,(0+aP 0 j 32)+32≤(bD S).length,SV.o (.g (bR (bD S) (0+aP 0 j 32) 32))=ak.enc y,BOk y,aO.enc (bI y (IntKind.u64.wrap j))=aO.enc kk,BOk x,U64 kk.gen,U64 e1,bK.enc (C x kk e1)=bK.enc cc]
theorem gof_1 (hC:C=bQ) (S:List B32) (n c:Nat) (ty:TypeId) (a:Option Addr) (z k:Keys) (x0:B32) (jm e1 e2 jn:Int) (x y:B32) (kk:Keys) (cc:Cert) (g:Nat→SV):oN [0,1,2,3,5] (Γ C hC) 100 L (fill g 0 (M1 n c a )) (mem1 S ty z k x0) [(22,[.b true]),(25,[.b true]),(30,[.n e1]),(34,[.b false]),(46,[.n jm]),(48,[.ds (ak.enc x)]),(52,[.ds (ak.enc y)]),(55,[.s (aO.enc kk)]),(57,[.s (bK.enc cc)]),(28,[.n jn])] .normal (M2 n c a 1 e1 jn) (mem2 S ty z k x0 cc.vals 1 none) (kf C hC S n c ty a 0 jm e1 e2 1 x y kk cc++[0+0+1*130≤cc.row.length,0<1,Room Tryz.prog 39 1,IntKind.i64.wrap (1+1)=jn]):=by delta oN;kernel_rfl
theorem gof_2 (hC:C=bQ) (S:List B32) (n c:Nat) (ty:TypeId) (a:Option Addr) (z k:Keys) (x0:B32) (vs:List Value) (r:Nat) (e j:Int) (jm e1 e2 jn:Int) (x y:B32) (kk:Keys) (cc:Cert) (g:Nat→SV):oX (Γ C hC) 100 L (fill g 0 (M2 n c a r e j)) (mem2 S ty z k x0 vs (r+1) none) [(22,[.b true]),(25,[.b true]),(30,[.n e1]),(34,[.b false]),(46,[.n jm]),(48,[.ds (ak.enc x)]),(52,[.ds (ak.enc y)]),(55,[.s (aO.enc kk)]),(57,[.s (bK.enc cc)]),(28,[.n jn])] .normal (M2 n c a (r+1) e1 jn) (mem2 S ty z k x0 (vs++cc.vals) (r+1) none) (kf C hC S n c ty a e jm e1 e2 j x y kk cc++[0+0+1*130≤cc.row.length,r*130=vs.length,r+1≤r+1,∀v∈cc.vals,v.oneCell'=true,IntKind.i64.wrap (j+1)=jn]):=by delta oX;kernel_rfl
theorem grf_2 (hC:C=bQ) (S:List B32) (n c:Nat) (ty:TypeId) (a:Option Addr) (z k:Keys) (x0:B32) (vs:List Value) (r lo:Nat) (e j:Int) (jm e1 e2 jn:Int) (x y:B32) (kk:Keys) (cc:Cert) (g:Nat→SV):oN [0,1,2,3,6] (Γ C hC) 100 L (fill g 0 (M2 n c a r e j)) (mem2 S ty z k x0 vs lo (some (r+1))) [(22,[.b true]),(25,[.b true]),(30,[.n e1]),(34,[.b false]),(46,[.n jm]),(48,[.ds (ak.enc x)]),(52,[.ds (ak.enc y)]),(55,[.s (aO.enc kk)]),(57,[.s (bK.enc cc)]),(28,[.n jn])] .normal (M2 n c a (r+1) e1 jn) (mem2 S ty z k x0 (vs++cc.vals) (r+1) none) (kf C hC S n c ty a e jm e1 e2 j x y kk cc++[0+0+1*130≤cc.row.length,r*130=vs.length,r+1≤r+1,Room Tryz.prog 39 (r+1),IntKind.i64.wrap (j+1)=jn]):=by delta oN;kernel_rfl
theorem vX (hC:C=bQ) (S:List B32) (n c:Nat) (ty:TypeId) (a:Option Addr) (z k:Keys) (x0:B32) (g:Nat→SV):oX (Γ C hC) 100 L (fill g 0 (M1 n c a )) (mem1 S ty z k x0) [(22,[.b false])] (.exit 0) (MD1 a) (mem1 S ty z k x0) [decide ((1:Int)<n)=false]:=by delta oX;kernel_rfl
theorem outa_2 (hC:C=bQ) (S:List B32) (n c:Nat) (ty:TypeId) (a:Option Addr) (z k:Keys) (x0:B32) (vs:List Value) (lo:Nat) (hi:Option Nat) (r:Nat) (e j:Int) (g:Nat→SV):oX (Γ C hC) 100 L (fill g 0 (M2 n c a r e j)) (mem2 S ty z k x0 vs lo hi) [(22,[.b false])] (.exit 0) (MD2 a r) (mem2 S ty z k x0 vs lo hi) [decide ((j:Int)<n)=false]:=by delta oX;kernel_rfl
theorem outb_2 (hC:C=bQ) (S:List B32) (n c:Nat) (ty:TypeId) (a:Option Addr) (z k:Keys) (x0:B32) (vs:List Value) (lo:Nat) (hi:Option Nat) (r:Nat) (e j:Int) (g:Nat→SV):oX (Γ C hC) 100 L (fill g 0 (M2 n c a r e j)) (mem2 S ty z k x0 vs lo hi) [(22,[.b true]),(25,[.b false])] (.exit 0) (MD2 a r) (mem2 S ty z k x0 vs lo hi) [decide ((j:Int)<n)=true,decide ((j:Int)<6)=false]:=by delta oX;kernel_rfl
theorem tL (hC:C=bQ) (S:List B32) (ty:TypeId) (a:Option Addr) (z k:Keys) (x0:B32) (g:Nat→SV):oX (Γ C hC) 100 D (fill g 0 (MD1 a )) (mem1 S ty z k x0) [] .ret (MZ1 a) (mem1 S ty k k x0) []:=by delta oX;kernel_rfl
theorem fin_2 (hC:C=bQ) (S:List B32) (ty:TypeId) (a:Option Addr) (z k:Keys) (x0:B32) (vs:List Value) (lo:Nat) (hi:Option Nat) (r:Nat) (g:Nat→SV):oX (Γ C hC) 100 D (fill g 0 (MD2 a r)) (mem2 S ty z k x0 vs lo hi) [] .ret (MZ2 a r) (mem2 S ty k k x0 vs lo hi) []:=by delta oX;kernel_rfl
end
theorem zr1 (S:List B32) (ty:TypeId) (a:Option Addr) (z k:Keys) (x0:B32) (g:Nat→SV):eRes tys (fill g 0 (MZ1 a )) (fun q=>(mem1 S ty z k x0)[q]?) fn.results.toList=some [.g z.row,.a (.v (.slice none 0 0))]:=by kernel_rfl
theorem zr2 (S:List B32) (ty:TypeId) (a:Option Addr) (z k:Keys) (x0:B32) (vs:List Value) (lo:Nat) (hi:Option Nat) (r:Nat) (g:Nat→SV):eRes tys (fill g 0 (MZ2 a r)) (fun q=>(mem2 S ty z k x0 vs lo hi)[q]?) fn.results.toList=some [.g z.row,.a (.slg 4 r)]:=by kernel_rfl
noncomputable def Mx (n c:Nat) (a:Option Addr):Nat→List (Option SV)
 | 0=>M1 n c a
 | i+1=>M2 n c a (i+1) (epM [] (i+1)) ((i+2:Nat):Int)
noncomputable def Bx (C:B32→Keys→Int→Cert) (S:List B32) (ty:TypeId) (k:Keys) (x0:B32):Nat→List Blk
 | 0=>mem1 S ty zk k x0
 | i+1=>mem2 S ty zk k x0 (aA (mkL C S [] (i+1))) (i+1) none
theorem cont (C:B32→Keys→Int→Cert) (hC:C=bQ) (S:List B32) (n c:Nat) (ty:TypeId) (a:Option Addr) (x0:B32) (hn:S.length=n) (hm:n≤9223372036854775807) (hS:∀i,i<n→BOk (S.getD i aM)) (h0:x0=S.getD 0 aM) (g:Nat→SV):
  aK Tryz.prog G3 1 (bY 6 body) (fill g 0 (M0 n c a )) (mem1 S ty zk (bI x0 0) x0) (aN tys fn (madQ C S [] n)):=by
 generalize hk:bI x0 0=k
 have hkk:k=bI (S.getD 0 aM) 0:=by rw[←hk,h0]
 have hl:(bD S).length=n*32:=by rw[←hn];exact fG jG S
 have hA:∀i:Nat,i<n→0+aP 0 (i:Int) 32+32≤(bD S).length:=fun i h=>by
  have:=Nat.mul_le_mul_right 32 (show i+1≤n by omega)
  rw[lT,hl];omega
 have hB:∀i:Nat,i<n→SV.o (.g (bR (bD S) (0+aP 0 (i:Int) 32) 32))=ak.enc (S.getD i aM):=fun i h=>by
  rw[lT];exact ld_b32 S (by omega)
 have ho:∀i:Nat,aP 0 (i:Int) 1=i:=fun i=>by rw[lN];simp
 rw[fV]
 refine Runs.seq (Runs.seq (Runs.au ah mixed (a1 C hC S n c ty a _ _ _ g) trivial (tH S n c ty a _ _ _) rfl fun g=> ?_))
 refine Runs.block ?_
 refine Runs.dS (Mx n c a ) (Bx C S ty k x0) (fun i=>i≤mkN n) (fun i=>5-i) ?_ 0 (Nat.zero_le _) g
 rintro i g hi
 have h5:mkN n≤5:=by unfold mkN;omega
 have h6:mkN n≤n-1:=by unfold mkN;omega
 by_cases hin:mkN n=i
 ·cases i with
  | zero=>
   have hn1:n≤1:=by unfold mkN at hin;omega
   refine Runs.au ah mixed (vX C hC S n c ty a _ _ _ g) ⟨decide_eq_false (by omega),trivial⟩ (qA S ty a _ _ _) rfl fun g=> ?_
   show aK _ _ _ _ _ _ _
   exact Runs.au ah mixed (tL C hC S ty a _ _ _ g) trivial (qw S ty a _ _ _) rfl fun g=>aN.ret (zr1 S ty a _ _ _ g) (.inl ⟨hin,by rw[hkk];rfl⟩)
  | succ i=>
   have hfin:∀g,aK Tryz.prog G3 1 D (fill g 0 (MD2 a (i+1))) (mem2 S ty zk k x0 (aA (mkL C S [] (i+1))) (i+1) none) (aN tys fn (madQ C S [] n)):=fun g=>
    Runs.au ah mixed (fin_2 C hC S ty a _ _ _ _ _ _ _ g) trivial (wB S ty a _ _ _ _ _ _ _) rfl fun g=>aN.ret (zr2 S ty a _ _ _ _ _ _ _ g) (.inr ⟨by omega,4,by rw[hkk,hin];rfl,by rw[hin];rfl⟩)
   by_cases hs:i+2<n
   ·have hi5:i+2=6:=by unfold mkN at hin;omega
    refine Runs.au ah mixed (outb_2 C hC S n c ty a _ _ _ _ _ _ _ _ _ g) ⟨decide_eq_true (by omega),decide_eq_false (by omega),trivial⟩ (tF S ty a _ _ _ _ _ _ _) rfl fun g=>hfin g
   ·refine Runs.au ah mixed (outa_2 C hC S n c ty a _ _ _ _ _ _ _ _ _ g) ⟨decide_eq_false (by omega),trivial⟩ (tF S ty a _ _ _ _ _ _ _) rfl fun g=>hfin g
 ·have hi':i<mkN n:=by omega
  have hj:i+1<n:=by omega
  have hwj:IntKind.u64.wrap ((i+1:Nat):Int)=((i+1:Nat):Int):=by rw[IntKind.wrap_u64];omega
  have hjm:IntKind.i64.wrap (((i+1:Nat):Int)-1)=(i:Int):=by rw[IntKind.wrap_i64];omega
  have hjn:IntKind.i64.wrap (((i+1:Nat):Int)+1)=((i+2:Nat):Int):=by rw[IntKind.wrap_i64];omega
  have hg:U64 (bI (S.getD (i+1) aM) ((i+1:Nat):Int)).gen:=by rw[keysV_gen];exact⟨by omega,by omega⟩
  have hky:aO.enc (bI (S.getD (i+1) aM) (IntKind.u64.wrap ((i+1:Nat):Int)))=aO.enc (bI (S.getD (i+1) aM) ((i+1:Nat):Int)):=by rw[hwj]
  have hb1:=hS i (by omega)
  have hb2:=hS (i+1) hj
  have hep:=epM_u [] (i+1)
  have dq:decide (((i+1:Nat):Int)≤(([]:List Int).length:Int))=false:=decide_eq_false (by simp only[List.length_nil];omega)
  have he1:IntKind.u64.wrap (epM [] i+1)=epM [] (i+1):=by rw[epM,dq,cond_false]
  have hK:Holds (kf C hC S n c ty a (epM [] i) (i:Int) (epM [] (i+1)) (epM [] (i+1)) ((i+1:Nat):Int) (S.getD i aM) (S.getD (i+1) aM) (bI (S.getD (i+1) aM) ((i+1:Nat):Int)) (mkC C S [] i)):=⟨decide_eq_true (by omega),decide_eq_true (by omega),he1,dq,hjm,by omega,by omega,hA _ (by omega),hB _ (by omega),by omega,by omega,hA (i+1) hj,hB (i+1) hj,hb2,hky,hb1,hg,hep,rfl,trivial⟩
  cases i with
  | zero=>
   refine Runs.bW ah mixed _ (gof_1 C hC S n c ty a zk k x0 0 (epM [] (0+1)) (epM [] (0+1)) ((0+2:Nat):Int) (S.getD 0 aM) (S.getD (0+1) aM) (bI (S.getD (0+1) aM) ((0+1:Nat):Int)) (mkC C S [] 0) g) (lK hK ⟨by show 130≤130;omega,by omega,roomC _ (by omega),hjn,trivial⟩) (mg S n c ty a _ _ _ _ _ _ _ _ _) rfl fun g=> ?_
   refine⟨1,g,rfl,?_,by omega,by omega⟩
   have hkv:(mkC C S [] 0).vals=aA (mkL C S [] (0+1)):=by rw[vJ];rfl
   rw[hkv];rfl
  | succ i=>
   have hkv:=vJ C S [] (i+1)
   have hk:=mk_len C S [] (i+1)
   refine Runs.roomV 4 (i+1+1) (own:=true) (ty:=39) (s:=130) (vs:=aA (mkL C S [] (i+1))) (lo:=i+1) rfl ?_ ?_
   ·refine Runs.au ah mixed (gof_2 C hC S n c ty a zk k x0 (aA (mkL C S [] (i+1))) (i+1) (epM [] (i+1)) ((i+1+1:Nat):Int) ((i+1:Nat):Int) (epM [] (i+1+1)) (epM [] (i+1+1)) ((i+1+2:Nat):Int) (S.getD (i+1) aM) (S.getD (i+1+1) aM) (bI (S.getD (i+1+1) aM) ((i+1+1:Nat):Int)) (mkC C S [] (i+1)) g) (lK hK ⟨by show 130≤130;omega,by rw[hk],Nat.le_refl _,oneC _,hjn,trivial⟩) (mg S n c ty a _ _ _ _ _ _ _ _ _) rfl fun g=> ?_
    refine⟨i+1+1,g,rfl,?_,by omega,by omega⟩
    rw[←hkv];rfl
   ·refine Runs.bW ah mixed _ (grf_2 C hC S n c ty a zk k x0 (aA (mkL C S [] (i+1))) (i+1) (i+1) (epM [] (i+1)) ((i+1+1:Nat):Int) ((i+1:Nat):Int) (epM [] (i+1+1)) (epM [] (i+1+1)) ((i+1+2:Nat):Int) (S.getD (i+1) aM) (S.getD (i+1+1) aM) (bI (S.getD (i+1+1) aM) ((i+1+1:Nat):Int)) (mkC C S [] (i+1)) g) (lK hK ⟨by show 130≤130;omega,by rw[hk],Nat.le_refl _,roomC _ (by omega),hjn,trivial⟩) (mg S n c ty a _ _ _ _ _ _ _ _ _) rfl fun g=> ?_
    refine⟨i+1+1,g,rfl,?_,by omega,by omega⟩
    rw[←hkv];rfl
theorem run (C:B32→Keys→Int→Cert) (hC:C=bQ) (S:List B32) (n c:Nat) (ty:TypeId) (a:Option Addr) (hn:S.length=n) (hm:n≤9223372036854775807) (hS:∀i,i<n→BOk (S.getD i aM)) (hz:BOk aM):
  aK Tryz.prog G3 1 body (aH fn [.o (.a (.sld 0 0 0 n c)),.o (.a (.v (.slice a 0 0)))]) [⟨false,ty,.prv (bD S)⟩] (aN tys fn (madQ C S [] n)):=by
 by_cases h0:n=0
 ·subst h0
  have e0:S.getD 0 aM=aM:=by rw[List.getD_eq_getElem?_getD,List.getElem?_eq_none (by omega)];rfl
  exact Runs.bS ah mixed 6 (s0z C hC S 0 c ty a (bI aM 0)) ⟨decide_eq_false (by omega),hz,rfl,trivial⟩ (qN S 0 c ty a _ _ _) rfl fun g=>cont C hC S 0 c ty a aM hn hm hS e0.symm g
 ·have hl:(bD S).length=n*32:=by rw[←hn];exact fG jG S
  have hA:0+aP 0 (0:Int) 32+32≤(bD S).length:=by
   have:0+aP 0 ((0:Nat):Int) 32=0*32:=lT 0 32
   have e:aP 0 (0:Int) 32=aP 0 ((0:Nat):Int) 32:=rfl
   rw[e,hl];omega
  have hB:SV.o (.g (bR (bD S) (0+aP 0 (0:Int) 32) 32))=ak.enc (S.getD 0 aM):=by
   have h:=ld_b32 S (i:=0) (by omega)
   have e:0+aP 0 (0:Int) 32=0*32:=lT 0 32
   rw[e];exact h
  exact Runs.bS ah mixed 6 (s0 C hC S n c ty a (S.getD 0 aM) (bI (S.getD 0 aM) 0)) ⟨decide_eq_true (by omega),by omega,by omega,hA,hB,hS 0 (by omega),rfl,trivial⟩ (qN S n c ty a _ _ _) rfl fun g=>cont C hC S n c ty a _ hn hm hS rfl g
end wv
namespace vw
def M0 (b:Option Addr) (m d:Nat):List (Option SV):=aJ 62 0 [(0,.o (.a (.v (.slice b 0 0)))),(1,.o (.a (.sld 0 0 0 m d))),(4,.o (.a (.ptr 1 0))),(7,.o (.a (.ptr 3 0))),(8,.o (.a (.v (.slice none 0 0)))),(9,.o (.a (aB .u64 0)))]
def M1 (b:Option Addr) (m d:Nat):List (Option SV):=aJ 62 0 [(0,.o (.a (.v (.slice b 0 0)))),(1,.o (.a (.sld 0 0 0 m d))),(4,.o (.a (.ptr 1 0))),(7,.o (.a (.ptr 3 0))),(8,.o (.a (.v (.slice none 0 0)))),(9,.o (.a (aB .u64 0))),(10,.o (.a (.v (.int .i64 1))))]
def MD1:List (Option SV):=aJ 62 0 [(4,.o (.a (.ptr 1 0))),(7,.o (.a (.ptr 3 0))),(8,.o (.a (.v (.slice none 0 0))))]
def MZ1:List (Option SV):=aJ 62 0 [(4,.o (.a (.ptr 1 0))),(5,.o (.a (.v (.slice none 0 0))))]
def mem1 (E:List Int) (ty':TypeId) (z k:Keys):List Blk:=[⟨false,ty',.pre .u8 E⟩,⟨true,28,.lit z.row⟩,⟨true,26,.lit (ak.row aM)⟩,⟨true,28,.lit k.row⟩]
theorem qN (b:Option Addr) (E:List Int) (m d:Nat) (ty':TypeId) (z k:Keys):oI (M0 b m d) (mem1 E ty' z k):=by delta oI;kernel_rfl
theorem tH (b:Option Addr) (E:List Int) (m d:Nat) (ty':TypeId) (z k:Keys):oI (M1 b m d) (mem1 E ty' z k):=by delta oI;kernel_rfl
theorem qA (E:List Int) (ty':TypeId) (z k:Keys):oI (MD1) (mem1 E ty' z k):=by delta oI;kernel_rfl
theorem qw (E:List Int) (ty':TypeId) (z k:Keys):oI (MZ1) (mem1 E ty' z k):=by delta oI;kernel_rfl
section
variable (C:B32→Keys→Int→Cert) (hC:C=bQ) (b:Option Addr) (E:List Int) (m d:Nat) (ty':TypeId)
theorem s0z (k:Keys):oX (Γ C hC) 100 (dU 6 body) (aH fn [.o (.a (.v (.slice b 0 0))),.o (.a (.sld 0 0 0 m d))]) [⟨false,ty',.pre .u8 E⟩] [(13,[.b false]),(18,[.s (aO.enc k)])] .normal (M0 b m d) (mem1 E ty' zk k) [decide ((0:Int)>0)=false,BOk aM,aO.enc (bI aM 0)=aO.enc k]:=by delta oX;kernel_rfl
theorem a1 (z k:Keys) (g:Nat→SV):oX (Γ C hC) 100 A1 (fill g 0 (M0 b m d )) (mem1 E ty' z k) [] .normal (M1 b m d) (mem1 E ty' z k) []:=by delta oX;kernel_rfl
theorem vX (z k:Keys) (g:Nat→SV):oX (Γ C hC) 100 L (fill g 0 (M1 b m d )) (mem1 E ty' z k) [(22,[.b false])] (.exit 0) (MD1) (mem1 E ty' z k) [decide ((1:Int)<0)=false]:=by delta oX;kernel_rfl
end
theorem tL (C:B32→Keys→Int→Cert) (hC:C=bQ) (E:List Int) (ty':TypeId) (z k:Keys) (g:Nat→SV):oX (Γ C hC) 100 D (fill g 0 (MD1 )) (mem1 E ty' z k) [] .ret (MZ1) (mem1 E ty' k k) []:=by delta oX;kernel_rfl
theorem zr1 (E:List Int) (ty':TypeId) (z k:Keys) (g:Nat→SV):eRes tys (fill g 0 (MZ1 )) (fun q=>(mem1 E ty' z k)[q]?) fn.results.toList=some [.g z.row,.a (.v (.slice none 0 0))]:=by kernel_rfl
theorem run (C:B32→Keys→Int→Cert) (hC:C=bQ) (b:Option Addr) (E:List Int) (m d:Nat) (ty':TypeId) (hz:BOk aM):aK Tryz.prog G3 1 body (aH fn [.o (.a (.v (.slice b 0 0))),.o (.a (.sld 0 0 0 m d))]) [⟨false,ty',.pre .u8 E⟩] (aN tys fn (bA (.t [.g (bI aM 0).row,.a (.v (.slice none 0 0))]) .none)):=by
 generalize hk:bI aM 0=k
 refine Runs.bS ah mixed 6 (s0z C hC b E m d ty' k) ⟨by decide,hz,by rw[hk],trivial⟩ (qN b E m d ty' _ _) rfl fun g=> ?_
 rw[fV]
 refine Runs.seq (Runs.seq (Runs.au ah mixed (a1 C hC b E m d ty' _ _ g) trivial (tH b E m d ty' _ _) rfl fun g=> ?_))
 refine Runs.block ?_
 refine Runs.dS (fun(_:Unit)=>M1 b m d ) (fun _=>mem1 E ty' zk k) (fun _=>True) (fun _=>0) ?_ () trivial g
 rintro _ g _
 refine Runs.au ah mixed (vX C hC b E m d ty' _ _ g) ⟨by decide,trivial⟩ (qA E ty' _ _) rfl fun g=> ?_
 show aK _ _ _ _ _ _ _
 exact Runs.au ah mixed (tL C hC E ty' _ _ g) trivial (qw E ty' _ _) rfl fun g=>aN.ret (zr1 E ty' _ _ g) rfl
end vw
namespace vv
def M0 (b:Option Addr) (a:Option Addr):List (Option SV):=aJ 62 0 [(0,.o (.a (.v (.slice b 0 0)))),(1,.o (.a (.v (.slice a 0 0)))),(4,.o (.a (.ptr 0 0))),(7,.o (.a (.ptr 2 0))),(8,.o (.a (.v (.slice none 0 0)))),(9,.o (.a (aB .u64 0)))]
def M1 (b:Option Addr) (a:Option Addr):List (Option SV):=aJ 62 0 [(0,.o (.a (.v (.slice b 0 0)))),(1,.o (.a (.v (.slice a 0 0)))),(4,.o (.a (.ptr 0 0))),(7,.o (.a (.ptr 2 0))),(8,.o (.a (.v (.slice none 0 0)))),(9,.o (.a (aB .u64 0))),(10,.o (.a (.v (.int .i64 1))))]
def MD1 (a:Option Addr):List (Option SV):=aJ 62 0 [(4,.o (.a (.ptr 0 0))),(7,.o (.a (.ptr 2 0))),(8,.o (.a (.v (.slice none 0 0))))]
def MZ1 (a:Option Addr):List (Option SV):=aJ 62 0 [(4,.o (.a (.ptr 0 0))),(5,.o (.a (.v (.slice none 0 0))))]
def mem1 (z k:Keys):List Blk:=[⟨true,28,.lit z.row⟩,⟨true,26,.lit (ak.row aM)⟩,⟨true,28,.lit k.row⟩]
theorem qN (b:Option Addr) (a:Option Addr) (z k:Keys):oI (M0 b a) (mem1 z k):=by delta oI;kernel_rfl
theorem tH (b:Option Addr) (a:Option Addr) (z k:Keys):oI (M1 b a) (mem1 z k):=by delta oI;kernel_rfl
theorem qA (a:Option Addr) (z k:Keys):oI (MD1 a) (mem1 z k):=by delta oI;kernel_rfl
theorem qw (a:Option Addr) (z k:Keys):oI (MZ1 a) (mem1 z k):=by delta oI;kernel_rfl
section
variable (C:B32→Keys→Int→Cert) (hC:C=bQ) (b:Option Addr) (a:Option Addr)
theorem s0z (k:Keys):oX (Γ C hC) 100 (dU 6 body) (aH fn [.o (.a (.v (.slice b 0 0))),.o (.a (.v (.slice a 0 0)))]) [] [(13,[.b false]),(18,[.s (aO.enc k)])] .normal (M0 b a) (mem1 zk k) [decide ((0:Int)>0)=false,BOk aM,aO.enc (bI aM 0)=aO.enc k]:=by delta oX;kernel_rfl
theorem a1 (z k:Keys) (g:Nat→SV):oX (Γ C hC) 100 A1 (fill g 0 (M0 b a )) (mem1 z k) [] .normal (M1 b a) (mem1 z k) []:=by delta oX;kernel_rfl
theorem vX (z k:Keys) (g:Nat→SV):oX (Γ C hC) 100 L (fill g 0 (M1 b a )) (mem1 z k) [(22,[.b false])] (.exit 0) (MD1 a) (mem1 z k) [decide ((1:Int)<0)=false]:=by delta oX;kernel_rfl
end
theorem tL (C:B32→Keys→Int→Cert) (hC:C=bQ) (a:Option Addr) (z k:Keys) (g:Nat→SV):oX (Γ C hC) 100 D (fill g 0 (MD1 a )) (mem1 z k) [] .ret (MZ1 a) (mem1 k k) []:=by delta oX;kernel_rfl
theorem zr1 (a:Option Addr) (z k:Keys) (g:Nat→SV):eRes tys (fill g 0 (MZ1 a )) (fun q=>(mem1 z k)[q]?) fn.results.toList=some [.g z.row,.a (.v (.slice none 0 0))]:=by kernel_rfl
theorem run (C:B32→Keys→Int→Cert) (hC:C=bQ) (b:Option Addr) (a:Option Addr) (hz:BOk aM):aK Tryz.prog G3 0 body (aH fn [.o (.a (.v (.slice b 0 0))),.o (.a (.v (.slice a 0 0)))]) [] (aN tys fn (bA (.t [.g (bI aM 0).row,.a (.v (.slice none 0 0))]) .none)):=by
 generalize hk:bI aM 0=k
 refine Runs.bS ah mixed 6 (s0z C hC b a k) ⟨by decide,hz,by rw[hk],trivial⟩ (qN b a _ _) rfl fun g=> ?_
 rw[fV]
 refine Runs.seq (Runs.seq (Runs.au ah mixed (a1 C hC b a _ _ g) trivial (tH b a _ _) rfl fun g=> ?_))
 refine Runs.block ?_
 refine Runs.dS (fun(_:Unit)=>M1 b a ) (fun _=>mem1 zk k) (fun _=>True) (fun _=>0) ?_ () trivial g
 rintro _ g _
 refine Runs.au ah mixed (vX C hC b a _ _ g) ⟨by decide,trivial⟩ (qA a _ _) rfl fun g=> ?_
 show aK _ _ _ _ _ _ _
 exact Runs.au ah mixed (tL C hC a _ _ g) trivial (qw a _ _) rfl fun g=>aN.ret (zr1 a _ _ g) rfl
end vv
theorem madQ_zero {C:B32→Keys→Int→Cert} {S:List B32} {E:List Int} {n:Nat} (h:mkN n=0) (r:SV) (m:List Blk):madQ C S E n r m→bA (.t [.g (bI (S.getD 0 aM) 0).row,.a (.v (.slice none 0 0))]) .none r m:=fun q=>by
 rcases q with q | q
 ·exact q.2
 ·exact absurd h (by omega)
theorem madQ_pos {C:B32→Keys→Int→Cert} {S:List B32} {E:List Int} {n:Nat} (h:0<mkN n) (r:SV) (m:List Blk):madQ C S E n r m→bA (.t [.g (bI (S.getD 0 aM) 0).row,.a (.slg 0 (mkN n))]) (.new 39 (.grv 130 (aA (mkL C S E (mkN n))) (mkN n) none)) r m:=fun q=>by
 rcases q with q | q
 ·exact absurd h (by omega)
 ·exact q.2
def o9 (C:B32→Keys→Int→Cert) (S:List B32) (F:Keys):List aV→Option (SV × dh × Cst)
 | [.winv _ vs n ty,.win .u8 E m ty']=>some (.t [.g F.row,.a (.v (.slice none 0 0))],.none,[vs=bD S,S.length=n,n≤9223372036854775807,∀i,i<n→BOk (S.getD i aM),F=bI (S.getD 0 aM) 0,BOk aM,mkN n=0])
 | [.winv _ vs n ty,.val (.o (.a (.v (.slice a 0 0))))]=>some (.t [.g F.row,.a (.v (.slice none 0 0))],.none,[vs=bD S,S.length=n,n≤9223372036854775807,∀i,i<n→BOk (S.getD i aM),F=bI (S.getD 0 aM) 0,BOk aM,mkN n=0])
 | [.val (.o (.a (.v (.slice b 0 0)))),.win .u8 E m ty']=>some (.t [.g F.row,.a (.v (.slice none 0 0))],.none,[F=bI aM 0,BOk aM])
 | [.val (.o (.a (.v (.slice b 0 0)))),.val (.o (.a (.v (.slice a 0 0))))]=>some (.t [.g F.row,.a (.v (.slice none 0 0))],.none,[F=bI aM 0,BOk aM])
 | _=>none
noncomputable def conZ (C:B32→Keys→Int→Cert) (hC:C=bQ) (S:List B32) (F:Keys):Con Tryz.prog G3:=Con.parts ah 7 fn Tryz.func7 (by kernel_rfl) (c:=body) (by kernel_rfl) [.winv 32,.win .u8] (o9 C S F )
 (fun ps r e p h hp=>by
  unfold o9 at h
  split at h<;>cases h
  ·exact⟨rfl,fun b hb=>by simp only[bG,aV.blk,List.append_nil,List.cons_append,List.nil_append,List.mem_cons,List.not_mem_nil,or_false] at hb;rcases hb with rfl | rfl<;>rfl⟩
  ·exact⟨rfl,fun b hb=>by simp only[bG,aV.blk,List.append_nil,List.mem_singleton] at hb;rw[hb]⟩
  ·exact⟨rfl,fun b hb=>by simp only[bG,aV.blk,List.append_nil,List.nil_append,List.mem_singleton] at hb;rw[hb]⟩
  ·exact⟨rfl,fun b hb=>by cases hb⟩)
 (fun ps r e p cap h hp hi=>by
  unfold o9 at h
  split at h<;>cases h
  ·rename_i vs n ty E m ty'
   obtain⟨p1,p2,p3,p4,p5,p0,p6⟩:=hp
   subst p1 p5
   exact Runs.mono (ww.run C hC S _ _ _ E m _ ty' p2 hi.2.1.1 p3 p4 p0) (fun _ _ _ h=>kJ (madQ_zero p6.1) h)
  ·rename_i vs n ty a
   obtain⟨p1,p2,p3,p4,p5,p0,p6⟩:=hp
   subst p1 p5
   exact Runs.mono (wv.run C hC S _ _ _ a p2 p3 p4 p0) (fun _ _ _ h=>kJ (madQ_zero p6.1) h)
  ·rename_i b E m ty'
   obtain⟨p1,p2,_⟩:=hp
   subst p1
   exact vw.run C hC b E m _ ty' p2
  ·rename_i b a
   obtain⟨p1,p2,_⟩:=hp
   subst p1
   exact vv.run C hC b a p2)
def og (C:B32→Keys→Int→Cert) (S:List B32) (F:Keys) (l:List Cert) (q:Nat):List aV→Option (SV × dh × Cst)
 | [.winv _ vs n ty,.win .u8 E m ty']=>some (.t [.g F.row,.a (.slg 0 q)],.new 39 (.grv 130 (aA l) q none),[vs=bD S,S.length=n,n≤9223372036854775807,∀i,i<n→BOk (S.getD i aM),F=bI (S.getD 0 aM) 0,BOk aM,q=mkN n,0<q,l=mkL C S E q])
 | [.winv _ vs n ty,.val (.o (.a (.v (.slice a 0 0))))]=>some (.t [.g F.row,.a (.slg 0 q)],.new 39 (.grv 130 (aA l) q none),[vs=bD S,S.length=n,n≤9223372036854775807,∀i,i<n→BOk (S.getD i aM),F=bI (S.getD 0 aM) 0,BOk aM,q=mkN n,0<q,l=mkL C S [] q])
 | _=>none
noncomputable def conP (C:B32→Keys→Int→Cert) (hC:C=bQ) (S:List B32) (F:Keys) (l:List Cert) (q:Nat):Con Tryz.prog G3:=Con.parts ah 7 fn Tryz.func7 (by kernel_rfl) (c:=body) (by kernel_rfl) [.winv 32,.win .u8] (og C S F l q )
 (fun ps r e p h hp=>by
  unfold og at h
  split at h<;>cases h
  ·exact⟨rfl,fun b hb=>by simp only[bG,aV.blk,List.append_nil,List.cons_append,List.nil_append,List.mem_cons,List.not_mem_nil,or_false] at hb;rcases hb with rfl | rfl<;>rfl⟩
  ·exact⟨rfl,fun b hb=>by simp only[bG,aV.blk,List.append_nil,List.mem_singleton] at hb;rw[hb]⟩)
 (fun ps r e p cap h hp hi=>by
  unfold og at h
  split at h<;>cases h
  ·rename_i vs n ty E m ty'
   obtain⟨p1,p2,p3,p4,p5,p0,p6⟩:=hp
   subst p1 p5
   obtain⟨p6,p7,p8,_⟩:=p6
   subst p6 p8
   exact Runs.mono (ww.run C hC S _ _ _ E m _ ty' p2 hi.2.1.1 p3 p4 p0) (fun _ _ _ h=>kJ (madQ_pos p7) h)
  ·rename_i vs n ty a
   obtain⟨p1,p2,p3,p4,p5,p0,p6⟩:=hp
   subst p1 p5
   obtain⟨p6,p7,p8,_⟩:=p6
   subst p6 p8
   exact Runs.mono (wv.run C hC S _ _ _ a p2 p3 p4 p0) (fun _ _ _ h=>kJ (madQ_pos p7) h))
end mad
end Go.Proofs.YthlmepolmemejaaGreatDoor
