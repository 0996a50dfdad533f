/- Package beaconref01: its table, rotations, and padded: walked, with contracts. -/
import Derived.Test.YthlmepolmemejaaGreatDoorLFo
import Derived.Test.YthlmepolmemejaaGreatDoorLMH
import Derived.Laws.MathBits
set_option linter.unusedVariables false
namespace Go.Proofs.YthlmepolmemejaaGreatDoor
open Go Go.Eng Go.RowKit
set_option maxRecDepth 100000
theorem or_comm32 (a b:Int):bits .or .u32 a b=bits .or .u32 b a:=by
 unfold bits
 simp only
 rw[BitVec.or_comm]
def rrots:List Int:=[17,19,7,18,6,11,25,2,13,22]
def eX (n bk ln:Nat):Nat:=(bk-(n+1+ln)%bk)%bk
def lenE (bt:Int) (i:Nat):Int:=cond (Nat.ble 8 i) 0 (aF bt (8*i))
def iB (bt:Int):Nat→List Int
 | 0=>[]
 | i+1=>lenE bt i::iB bt i
def lF (n:Nat):Int:=IntKind.u64.wrap (IntKind.u64.wrap (n:Int)*8)
def bO (ys:List Int) (bk ln:Nat):List Int:=ys++([128]++(List.replicate (eX ys.length bk ln) 0++iB (lF ys.length) ln))
theorem iw (bt:Int):∀i,(iB bt i).length=i
 | 0=>rfl
 | i+1=>by rw[iB,List.length_cons,iw]
namespace padd
noncomputable abbrev fn:=Tryz.f67
noncomputable def body:Code:=bZ fn
noncomputable def R0:Code:=cs1 body
noncomputable def R1:Code:=cs1 (cs2 body)
noncomputable def R2:Code:=cs1 (cs2 (cs2 body))
noncomputable def T3:Code:=cs2 (cs2 (cs2 body))
noncomputable def L1:Code:=cL (cB (cs1 T3))
noncomputable def R5:Code:=cs1 (cs2 T3)
noncomputable def T6:Code:=cs2 (cs2 T3)
noncomputable def R6:Code:=cs1 (cs1 T6)
noncomputable def L2:Code:=cL (cB (cs2 (cs1 T6)))
noncomputable def D:Code:=cs2 T6
theorem dX:body= .seq R0 (.seq R1 (.seq R2 (.seq (.block 0 (.loop L1)) (.seq R5 (.seq (.seq R6 (.block 2 (.loop L2))) D))))):=by kernel_rfl
namespace win128
def M0 (n c:Nat):List (Option SV):=aJ 51 0 [(0,.o (.a (.sld 0 0 0 n c))),(1,(av .i64).enc (128)),(2,(av .i64).enc (16))]
def M1 (n c:Nat) (len:Nat):List (Option SV):=aJ 51 0 [(0,.o (.a (.sld 0 0 0 n c))),(1,(av .i64).enc (128)),(2,(av .i64).enc (16)),(7,.o (.a (.slg 1 len)))]
def M2 (n c:Nat) (len:Nat) (bt:Int):List (Option SV):=aJ 51 0 [(0,.o (.a (.sld 0 0 0 n c))),(1,(av .i64).enc (128)),(2,(av .i64).enc (16)),(7,.o (.a (.slg 1 len))),(8,(av .u64).enc bt)]
def M3 (n c:Nat) (len:Nat) (bt:Int) (j:Nat):List (Option SV):=aJ 51 0 [(0,.o (.a (.sld 0 0 0 n c))),(1,(av .i64).enc (128)),(2,(av .i64).enc (16)),(7,.o (.a (.slg 1 len))),(8,(av .u64).enc bt),(9,(av .i64).enc (((j:Nat):Int)-1))]
def aS (ys:List Int) (ty:TypeId):List Blk:=[⟨false,ty,.pre .u8 ys⟩]
def mem (ys:List Int) (ty:TypeId) (xs:List Int) (lo:Nat) (hi:Option Nat):List Blk:=[⟨false,ty,.pre .u8 ys⟩,⟨true,5,.gro .u8 xs lo hi⟩]
noncomputable def t0 (ys:List Int) (n c:Nat) (ty:TypeId):List SV:=aH fn [.o (.a (.sld 0 0 0 n c)),(av .i64).enc (128),(av .i64).enc (16)]
section
variable (ys:List Int) (n c:Nat) (ty:TypeId)
theorem jy:oI (M0 n c) (aS ys ty):=by delta oI;kernel_rfl
theorem eT (xs:List Int) (lo len:Nat) (hi:Option Nat):oI (M1 n c len) (mem ys ty xs lo hi):=by delta oI;kernel_rfl
theorem fu (xs:List Int) (lo len:Nat) (bt:Int) (hi:Option Nat):oI (M2 n c len bt) (mem ys ty xs lo hi):=by delta oI;kernel_rfl
theorem ids3 (xs:List Int) (lo len:Nat) (bt:Int) (j:Nat) (hi:Option Nat):oI (M3 n c len bt j) (mem ys ty xs lo hi):=by delta oI;kernel_rfl
theorem r0:oX ([]:Cons Tryz.prog Gs) 100 R0 (t0 ys n c ty) (aS ys ty) [] .normal (M0 n c) (aS ys ty) []:=by delta oX;kernel_rfl
theorem r1 (g:Nat→SV):oN [0,2] ([]:Cons Tryz.prog Gs) 100 R1 (fill g 0 (M0 n c)) (aS ys ty) [] .normal (M1 n c n) (mem ys ty ((ys.drop 0).take n) n none) [0+n≤ys.length,0<n,Room Tryz.prog 5 n]:=by delta oN;kernel_rfl
end
def Mz (n c:Nat):List (Option SV):=aJ 51 0 [(0,.o (.a (.sld 0 0 0 n c))),(1,(av .i64).enc (128)),(2,(av .i64).enc (16)),(7,.o (.a (.slc 1 0 0 0)))]
section
variable (ys:List Int)
def memz (ty:TypeId):List Blk:=[⟨false,ty,.pre .u8 ys⟩,⟨true,5,.lit []⟩]
theorem idsz (n c:Nat) (ty:TypeId):oI (Mz n c) (memz ys ty):=by delta oI;kernel_rfl
theorem r1z (n c:Nat) (ty:TypeId) (g:Nat→SV):oX ([]:Cons Tryz.prog Gs) 100 R1 (fill g 0 (M0 n c)) (aS ys ty) [(12,[.dyn])] .normal (Mz n c) (memz ys ty) [0+n≤ys.length,n=0,0≤0]:=by delta oX;kernel_rfl
theorem r2z (n c:Nat) (ty:TypeId) (g:Nat→SV):oN [0,3] ([]:Cons Tryz.prog Gs) 100 R2 (fill g 0 (Mz n c)) (memz ys ty) [] .normal (M1 n c 1) (mem ys ty [128] 1 none) [0+1≤1,0<1,Room Tryz.prog 5 1]:=by delta oN;kernel_rfl
theorem r2i (n c:Nat) (ty:TypeId) (xs:List Int) (len:Nat) (g:Nat→SV):oX ([]:Cons Tryz.prog Gs) 100 R2 (fill g 0 (M1 n c len)) (mem ys ty xs (len+1) none) [] .normal (M1 n c (len+1)) (mem ys ty (xs++[128]) (len+1) none) [0+1≤1,len=xs.length,len+1≤len+1]:=by delta oX;kernel_rfl
theorem r2g (n c:Nat) (ty:TypeId) (xs:List Int) (len lo:Nat) (g:Nat→SV):oN [0,3] ([]:Cons Tryz.prog Gs) 100 R2 (fill g 0 (M1 n c len)) (mem ys ty xs lo (some (len+1))) [] .normal (M1 n c (len+1)) (mem ys ty (xs++[128]) (len+1) none) [0+1≤1,len=xs.length,len+1≤len+1,Room Tryz.prog 5 (len+1)]:=by delta oN;kernel_rfl
theorem l1i (n c:Nat) (ty:TypeId) (xs:List Int) (len:Nat) (g:Nat→SV):oX ([]:Cons Tryz.prog Gs) 100 L1 (fill g 0 (M1 n c len)) (mem ys ty xs (len+1) none) [(22,[.b true])] .normal (M1 n c (len+1)) (mem ys ty (xs++[0]) (len+1) none) [((IntKind.i64.wrap ((len:Int)+16)).tmod 128 !=0)=true,0+1≤1,len=xs.length,len+1≤len+1]:=by delta oX;kernel_rfl
theorem l1g (n c:Nat) (ty:TypeId) (xs:List Int) (len lo:Nat) (g:Nat→SV):oN [0,3] ([]:Cons Tryz.prog Gs) 100 L1 (fill g 0 (M1 n c len)) (mem ys ty xs lo (some (len+1))) [(22,[.b true])] .normal (M1 n c (len+1)) (mem ys ty (xs++[0]) (len+1) none) [((IntKind.i64.wrap ((len:Int)+16)).tmod 128 !=0)=true,0+1≤1,len=xs.length,len+1≤len+1,Room Tryz.prog 5 (len+1)]:=by delta oN;kernel_rfl
theorem l1x (n c:Nat) (ty:TypeId) (xs:List Int) (len lo:Nat) (g:Nat→SV):oX ([]:Cons Tryz.prog Gs) 100 L1 (fill g 0 (M1 n c len)) (mem ys ty xs lo none) [(22,[.b false])] (.exit 0) (M1 n c len) (mem ys ty xs lo none) [((IntKind.i64.wrap ((len:Int)+16)).tmod 128 !=0)=false]:=by delta oX;kernel_rfl
theorem r5 (n c:Nat) (ty:TypeId) (xs:List Int) (len lo:Nat) (g:Nat→SV):oX ([]:Cons Tryz.prog Gs) 100 R5 (fill g 0 (M1 n c len)) (mem ys ty xs lo none) [] .normal (M2 n c len (lF n)) (mem ys ty xs lo none) []:=by delta oX;kernel_rfl
theorem r6 (n c:Nat) (ty:TypeId) (xs:List Int) (len lo:Nat) (bt:Int) (g:Nat→SV):oX ([]:Cons Tryz.prog Gs) 100 R6 (fill g 0 (M2 n c len bt)) (mem ys ty xs lo none) [] .normal (M3 n c len bt 16) (mem ys ty xs lo none) []:=by delta oX;kernel_rfl
theorem l2i (n c:Nat) (ty:TypeId) (xs:List Int) (len:Nat) (bt:Int) (g:Nat→SV):tabLH (fun i=>outX (mem ys ty (xs++[lenE bt i]) (len+1) none).length (M3 n c (len+1) bt i) (exec ([]:Cons Tryz.prog Gs) tys 100 L2 ⟨fill g 0 (M3 n c len bt (i+1)),mem ys ty xs (len+1) none,[]⟩)) 16=tabRH (fun i=>some (.normal,live (M3 n c (len+1) bt i),(M3 n c (len+1) bt i).length,mem ys ty (xs++[lenE bt i]) (len+1) none,[0+1≤1,len=xs.length,len+1≤len+1])) 16:=by kernel_rfl
theorem l2g (n c:Nat) (ty:TypeId) (xs:List Int) (len lo:Nat) (bt:Int) (g:Nat→SV):tabLH (fun i=>outN [0,3] (M3 n c (len+1) bt i) (exec ([]:Cons Tryz.prog Gs) tys 100 L2 ⟨fill g 0 (M3 n c len bt (i+1)),mem ys ty xs lo (some (len+1)),[]⟩)) 16=tabRH (fun i=>some (.normal,(live (M3 n c (len+1) bt i)).map (SV.ren (piF [0,3])),(M3 n c (len+1) bt i).length,(mem ys ty (xs++[lenE bt i]) (len+1) none).map (fun b=>some (b.ren (piF [0,3]))),[0+1≤1,len=xs.length,len+1≤len+1,Room Tryz.prog 5 (len+1)])) 16:=by kernel_rfl
theorem l2x (n c:Nat) (ty:TypeId) (xs:List Int) (len lo:Nat) (bt:Int) (g:Nat→SV):oX ([]:Cons Tryz.prog Gs) 100 L2 (fill g 0 (M3 n c len bt 0)) (mem ys ty xs lo none) [] (.exit 2) (M1 n c len) (mem ys ty xs lo none) []:=by delta oX;kernel_rfl
noncomputable def fin (n c:Nat) (ty:TypeId) (xs:List Int) (len lo:Nat) (g:Nat→SV):St:=dz ([]:Cons Tryz.prog Gs) tys 100 D ⟨fill g 0 (M1 n c len),mem ys ty xs lo none,[]⟩
theorem d (n c:Nat) (ty:TypeId) (xs:List Int) (len lo:Nat) (g:Nat→SV):exec ([]:Cons Tryz.prog Gs) tys 100 D ⟨fill g 0 (M1 n c len),mem ys ty xs lo none,[]⟩=some (.ret,⟨(fin ys n c ty xs len lo g).tm,(fin ys n c ty xs len lo g).mem,[]⟩,[]):=by kernel_rfl
theorem res (n c:Nat) (ty:TypeId) (xs:List Int) (len lo:Nat) (g:Nat→SV):eRes tys (fin ys n c ty xs len lo g).tm (fun k=>(fin ys n c ty xs len lo g).mem[k]?) fn.results.toList=some [.a (.slg 1 len)]:=by kernel_rfl
theorem row (n c:Nat) (ty:TypeId) (xs:List Int) (len lo:Nat) (g:Nat→SV):(fin ys n c ty xs len lo g).mem[1]? =some ⟨true,5,.gro .u8 xs lo none⟩:=by kernel_rfl
end
end win128
end padd
theorem vH (n:Nat):eX n 64 8<64∧(n+1+eX n 64 8+8)%64=0∧∀j,j<eX n 64 8→(n+1+j+8)%64≠0:=by
 unfold eX
 refine⟨by omega,by omega,fun j hj=>by omega⟩
theorem padZ_128 (n:Nat):eX n 128 16<128∧(n+1+eX n 128 16+16)%128=0∧∀j,j<eX n 128 16→(n+1+j+16)%128≠0:=by
 unfold eX
 refine⟨by omega,by omega,fun j hj=>by omega⟩
theorem uF {α:Type} (a:List α) (x:α) (j:Nat):a++List.replicate (j+1) x=(a++List.replicate j x)++[x]:=by
 rw[List.append_assoc,List.replicate_succ']
section
variable {Post:Ex→List SV→List Blk→Prop}
section
variable (ys:List Int) (n c:Nat) (ty:TypeId)
theorem Av (xs0:List Int) (m:Nat) (hm:xs0.length=m+1) (hs:m≤140737488354000) (hp:∀g lo,Post .normal (fill g 0 (padd.win128.M1 n c (m+1+eX m 128 16))) (padd.win128.mem ys ty (xs0++List.replicate (eX m 128 16) 0) lo none)) (lo:Nat) (g:Nat→SV):
  aK Tryz.prog Gs 1 (.block 0 (.loop padd.L1)) (fill g 0 (padd.win128.M1 n c (m+1+0))) (padd.win128.mem ys ty (xs0++List.replicate 0 0) lo none) Post:=by
 obtain⟨z1,z2,z3⟩:=padZ_128 m
 refine Runs.block ?_
 refine Runs.dS (fun(x:Nat × Nat)=>padd.win128.M1 n c (m+1+x.1)) (fun x=>padd.win128.mem ys ty (xs0++List.replicate x.1 0) x.2 none) (fun x=>x.1≤eX m 128 16) (fun x=>eX m 128 16-x.1) ?_ (0,lo) (Nat.zero_le _) g
 rintro⟨j,lo⟩ g hj
 simp only at hj
 have hlen:(m+1+j)=(xs0++List.replicate j 0).length:=by rw[List.length_append,List.length_replicate,hm]
 have hw:(IntKind.i64.wrap (((m+1+j:Nat):Int)+16)).tmod 128=(((m+1+j+16)%128:Nat):Int):=by
  rw[gV _ (by omega) (by omega),Int.tmod_eq_emod_of_nonneg (by omega)];omega
 by_cases hlt:j<eX m 128 16
 ·have ht:((IntKind.i64.wrap (((m+1+j:Nat):Int)+16)).tmod 128 !=0)=true:=by
   rw[hw,bne_iff_ne]
   have:=z3 j hlt
   omega
  refine Runs.room 1 (m+1+j+1) (own:=true) (ty:=5) (kd:= .u8) (xs:=xs0++List.replicate j 0) (lo:=lo) rfl ?_ ?_
  ·refine Runs.au ah mixed (padd.win128.l1i ys n c ty (xs0++List.replicate j 0) (m+1+j) g) ⟨ht,by omega,hlen,by omega,trivial⟩ (padd.win128.eT ys n c ty _ _ _ _) rfl fun g'=>⟨(j+1,m+1+j+1),g',rfl,?_,hlt,by simp only;omega⟩
   simp only;rw[uF]
  ·refine Runs.bW ah mixed _ (padd.win128.l1g ys n c ty (xs0++List.replicate j 0) (m+1+j) lo g) ⟨ht,by omega,hlen,by omega,kW _ (by omega),trivial⟩ (padd.win128.eT ys n c ty _ _ _ _) rfl fun g'=>⟨(j+1,m+1+j+1),g',rfl,?_,hlt,by simp only;omega⟩
   simp only;rw[uF]
 ·obtain rfl:j=eX m 128 16:=by omega
  refine Runs.au ah mixed (padd.win128.l1x ys n c ty (xs0++List.replicate _ 0) (m+1+eX m 128 16) lo g) ⟨?_,trivial⟩ (padd.win128.eT ys n c ty _ _ _ _) rfl fun g'=>hp g' lo
  rw[hw]
  have:=z2
  simp only[bne_eq_false_iff_eq]
  omega
theorem Au (xs0:List Int) (m:Nat) (hm:xs0.length=m) (hs:m≤140737488355000) (bt:Int) (hp:∀g,Post .normal (fill g 0 (padd.win128.M1 n c (m+(16-0)))) (padd.win128.mem ys ty (xs0++iB bt 16) (m+(16-0)) none)) (lo:Nat) (g:Nat→SV):
  aK Tryz.prog Gs 1 (.block 2 (.loop padd.L2)) (fill g 0 (padd.win128.M3 n c (m+(16-16)) bt 16)) (padd.win128.mem ys ty xs0 lo none) Post:=by
 refine Runs.block ?_
 refine Runs.dS (fun(x:Nat × List Int × Nat)=>padd.win128.M3 n c (m+(16-x.1)) bt x.1) (fun x=>padd.win128.mem ys ty x.2.1 x.2.2 none) (fun x=>x.1≤16∧x.2.1.length=m+(16-x.1)∧x.2.1++iB bt x.1=xs0++iB bt 16∧(x.1=16∨x.2.2=m+(16-x.1))) (fun x=>x.1) ?_ (16,xs0,lo) ⟨Nat.le_refl _,by simp only;omega,rfl,.inl rfl⟩ g
 rintro⟨j,xs,lo⟩ g ⟨hj,hl,he,hlo⟩
 simp only at hj hl he hlo
 cases j with
 | zero=>
  have he:xs=xs0++iB bt 16:=by rw[←he];exact(List.append_nil _).symm
  subst he
  obtain rfl:lo=m+(16-0):=by omega
  exact Runs.au ah mixed (padd.win128.l2x ys n c ty (xs0++iB bt 16) (m+(16-0)) (m+(16-0)) bt g) trivial (padd.win128.eT ys n c ty _ _ _ _) rfl hp
 | succ i=>
  have hlen:m+(16-(i+1))=xs.length:=hl.symm
  have e1:m+(16-(i+1))+1=m+(16-i):=by omega
  have e2:(xs++[lenE bt i])++iB bt i=xs0++iB bt 16:=by rw[←he,List.append_assoc];rfl
  refine Runs.room 1 (m+(16-(i+1))+1) (own:=true) (ty:=5) (kd:= .u8) (xs:=xs) (lo:=lo) rfl ?_ ?_
  ·refine Runs.au ah mixed (vP (padd.win128.l2i ys n c ty xs (m+(16-(i+1))) bt g) i (by omega)) ⟨by omega,hlen,by omega,trivial⟩ (padd.win128.ids3 ys n c ty _ _ _ _ _ _) rfl fun g'=>⟨(i,xs++[lenE bt i],m+(16-(i+1))+1),g',?_,rfl,⟨by simp only;omega,by simp only[List.length_append,List.length_singleton];omega,e2,.inr e1⟩,by simp only;omega⟩
   simp only;rw[e1]
  ·refine Runs.bW ah mixed _ (vP (padd.win128.l2g ys n c ty xs (m+(16-(i+1))) lo bt g) i (by omega)) ⟨by omega,hlen,by omega,kW _ (by omega),trivial⟩ (padd.win128.ids3 ys n c ty _ _ _ _ _ _) rfl fun g'=>⟨(i,xs++[lenE bt i],m+(16-(i+1))+1),g',?_,rfl,⟨by simp only;omega,by simp only[List.length_append,List.length_singleton];omega,e2,.inr e1⟩,by simp only;omega⟩
   simp only;rw[e1]
theorem rG (hy:(ys:List Int).length=n) (hs:n≤140737488354000) (lo:Nat) (g:Nat→SV):
  aK Tryz.prog Gs 1 (.seq (.block 0 (.loop padd.L1)) (.seq padd.R5 (.seq (.seq padd.R6 (.block 2 (.loop padd.L2))) padd.D))) (fill g 0 (padd.win128.M1 n c (n+1))) (padd.win128.mem ys ty (ys++[128]) lo none) (aN tys padd.fn (bA (.o (.a (.slg 0 (bO ys 128 16).length))) (.new 5 (.gro .u8 (bO ys 128 16) (bO ys 128 16).length none)))):=by
 obtain⟨z1,z2,z3⟩:=padZ_128 n
 have h0:(ys:List Int)++[128]++List.replicate 0 0=ys++[128]:=List.append_nil _
 rw[←h0]
 refine Runs.seq (Av ys n c ty (ys++[128]) n (by simp only[List.length_append,List.length_singleton,hy]) hs (fun g lo=> ?_) lo g)
 refine Runs.seq (Runs.au ah mixed (padd.win128.r5 ys n c ty _ _ lo g) trivial (padd.win128.fu ys n c ty _ _ _ _ _) rfl fun g=> ?_)
 refine Runs.seq (Runs.seq (Runs.au ah mixed (padd.win128.r6 ys n c ty _ _ lo _ g) trivial (padd.win128.ids3 ys n c ty _ _ _ _ _ _) rfl fun g=> ?_))
 refine Au ys n c ty (ys++[128]++List.replicate (eX n 128 16) 0) (n+1+eX n 128 16) (by simp only[List.length_append,List.length_singleton,List.length_replicate,hy]) (by omega) (lF n) (fun g=> ?_) lo g
 have ex:(ys++[128]++List.replicate (eX n 128 16) 0)++iB (lF n) 16=bO ys 128 16:=by
  unfold bO
  rw[hy,List.append_assoc,List.append_assoc]
 have el:n+1+eX n 128 16+(16-0)=(bO ys 128 16).length:=by
  rw[←ex]
  simp only[List.length_append,List.length_singleton,List.length_replicate,iw,hy]
 refine Runs.aQ ah mixed (padd.win128.d ys n c ty _ _ _ g) trivial (aN.ret (padd.win128.res ys n c ty _ _ _ g) ⟨1,?_,?_⟩)
 ·rw[←el];rfl
 ·rw[←el,←ex]
  exact padd.win128.row ys n c ty _ _ _ g
theorem Bt (hy:(ys:List Int).length=n) (hs:n≤140737488354000):
  aK Tryz.prog Gs 1 padd.body (padd.win128.t0 ys n c ty) (padd.win128.aS ys ty) (aN tys padd.fn (bA (.o (.a (.slg 0 (bO ys 128 16).length))) (.new 5 (.gro .u8 (bO ys 128 16) (bO ys 128 16).length none)))):=by
 rw[padd.dX]
 refine Runs.seq (Runs.au ah mixed (padd.win128.r0 ys n c ty) trivial (padd.win128.jy ys n c ty) rfl fun g=> ?_)
 by_cases hn:n=0
 ·have hz:ys=[]:=List.eq_nil_of_length_eq_zero (by omega)
  subst hn hz
  refine Runs.seq (Runs.au ah mixed (padd.win128.r1z [] 0 c ty g) ⟨by decide,rfl,by decide,trivial⟩ (padd.win128.idsz [] 0 c ty) rfl fun g=> ?_)
  refine Runs.seq (Runs.bW ah mixed _ (padd.win128.r2z [] 0 c ty g) ⟨by decide,by decide,kW _ (by omega),trivial⟩ (padd.win128.eT [] 0 c ty _ _ _ _) rfl fun g=> ?_)
  exact rG [] 0 c ty rfl (by omega) 1 g
 ·refine Runs.seq (Runs.bW ah mixed _ (padd.win128.r1 ys n c ty g) ⟨by omega,by omega,kW _ (by omega),trivial⟩ (padd.win128.eT ys n c ty _ _ _ _) rfl fun g=> ?_)
  have e:(ys.drop 0).take n=ys:=by rw[List.drop_zero,List.take_of_length_le (by omega)]
  show aK _ _ _ _ _ (padd.win128.mem ys ty ((ys.drop 0).take n) n none) _
  rw[e]
  refine Runs.room 1 (n+1) (own:=true) (ty:=5) (kd:= .u8) (xs:=ys) (lo:=n) rfl ?_ ?_
  ·refine Runs.seq (Runs.au ah mixed (padd.win128.r2i ys n c ty ys n g) ⟨by omega,hy.symm,by omega,trivial⟩ (padd.win128.eT ys n c ty _ _ _ _) rfl fun g=> ?_)
   exact rG ys n c ty hy hs _ g
  ·refine Runs.seq (Runs.bW ah mixed _ (padd.win128.r2g ys n c ty ys n n g) ⟨by omega,hy.symm,by omega,kW _ (by omega),trivial⟩ (padd.win128.eT ys n c ty _ _ _ _) rfl fun g=> ?_)
   exact rG ys n c ty hy hs _ g
end
end
def qm:List aV→Option (SV × dh × Cst)
 | [.win .u8 ys n ty,.val (.o (.a (.v (.int .i64 bk)))),.val (.o (.a (.v (.int .i64 ln))))]=>
  if bk=128∧ln=16 then some (.o (.a (.slg 0 (bO ys 128 16).length)),.new 5 (.gro .u8 (bO ys 128 16) (bO ys 128 16).length none),[n≤140737488354000]) else none
 | _=>none
def padd_out (ys:List Int) (bk ln:Nat) (p:Cst):SV × dh × Cst:=(.o (.a (.slg 0 (bO ys bk ln).length)),.new 5 (.gro .u8 (bO ys bk ln) (bO ys bk ln).length none),p)
theorem sQ {ps:List aV} {q:SV × dh × Cst} (h:qm ps=some q):
  ∃ys n ty,ps=[.win .u8 ys n ty,.val (.o (.a (.v (.int .i64 128)))),.val (.o (.a (.v (.int .i64 16))))]∧q=padd_out ys 128 16 [n≤140737488354000]:=by
 unfold qm at h
 split at h
 ·split at h<;>cases h
  rename_i hc
  obtain⟨rfl,rfl⟩:=hc
  exact⟨_,_,_,rfl,rfl⟩
 ·cases h
noncomputable def padd_con:Con Tryz.prog Gs:=Con.parts ah 67 padd.fn Tryz.func67 (by kernel_rfl) (c:=padd.body) (by kernel_rfl) [.win .u8,.val,.val] qm
 (fun ps r e p h hp=>by
  obtain⟨ys,n,ty,rfl,hq⟩:=sQ h
  cases hq
  exact⟨rfl,fun b hb=>by simp only[bG,aV.blk,List.append_nil,List.mem_singleton] at hb;rw[hb]⟩)
 (fun ps r e p cap h hp hi=>by
  obtain⟨ys,n,ty,rfl,hq⟩:=sQ h
  cases hq
  exact Bt ys n _ ty hi.1.1 hp.1)
def wordR (a b c d:Int):Int:=bits .or .u32 (bits .or .u32 (bits .or .u32 (IntKind.u32.wrap (IntKind.u32.wrap a*2^24)) (IntKind.u32.wrap (IntKind.u32.wrap b*2^16))) (IntKind.u32.wrap (IntKind.u32.wrap c*2^8))) (IntKind.u32.wrap d)
def row8 (h:Nat→Int):List Atom:=u32 (h 0)::u32 (h 1)::u32 (h 2)::u32 (h 3)::u32 (h 4)::u32 (h 5)::u32 (h 6)::u32 (h 7)::[]
def outR (h:Nat→Int):B32:=⟨IntKind.u8.wrap ((h 0).fdiv (2^24)),IntKind.u8.wrap ((h 0).fdiv (2^16)),IntKind.u8.wrap ((h 0).fdiv (2^8)),IntKind.u8.wrap ((h 0).fdiv (2^0)),IntKind.u8.wrap ((h 1).fdiv (2^24)),IntKind.u8.wrap ((h 1).fdiv (2^16)),IntKind.u8.wrap ((h 1).fdiv (2^8)),IntKind.u8.wrap ((h 1).fdiv (2^0)),IntKind.u8.wrap ((h 2).fdiv (2^24)),IntKind.u8.wrap ((h 2).fdiv (2^16)),IntKind.u8.wrap ((h 2).fdiv (2^8)),IntKind.u8.wrap ((h 2).fdiv (2^0)),IntKind.u8.wrap ((h 3).fdiv (2^24)),IntKind.u8.wrap ((h 3).fdiv (2^16)),IntKind.u8.wrap ((h 3).fdiv (2^8)),IntKind.u8.wrap ((h 3).fdiv (2^0)),IntKind.u8.wrap ((h 4).fdiv (2^24)),IntKind.u8.wrap ((h 4).fdiv (2^16)),IntKind.u8.wrap ((h 4).fdiv (2^8)),IntKind.u8.wrap ((h 4).fdiv (2^0)),IntKind.u8.wrap ((h 5).fdiv (2^24)),IntKind.u8.wrap ((h 5).fdiv (2^16)),IntKind.u8.wrap ((h 5).fdiv (2^8)),IntKind.u8.wrap ((h 5).fdiv (2^0)),IntKind.u8.wrap ((h 6).fdiv (2^24)),IntKind.u8.wrap ((h 6).fdiv (2^16)),IntKind.u8.wrap ((h 6).fdiv (2^8)),IntKind.u8.wrap ((h 6).fdiv (2^0)),IntKind.u8.wrap ((h 7).fdiv (2^24)),IntKind.u8.wrap ((h 7).fdiv (2^16)),IntKind.u8.wrap ((h 7).fdiv (2^8)),IntKind.u8.wrap ((h 7).fdiv (2^0))⟩
namespace r256
def h0 (j:Nat):Int:=h0L.at j
namespace win
section
variable (len at_:Nat)
def MH:List (Option SV):=aJ 245 0 [(2,.o (.a (.ptr 1 0))),(3,.o (.a (.ptr 2 0))),(4,.o (.a (.ptr 3 0))),(5,.o (.a (.slg 4 len))),(6,(av .i64).enc ((at_:Nat):Int))]
def M7:List (Option SV):=aJ 245 0 [(2,.o (.a (.ptr 1 0))),(3,.o (.a (.ptr 2 0))),(4,.o (.a (.ptr 3 0))),(5,.o (.a (.slg 4 len))),(6,(av .i64).enc ((at_:Nat):Int)),(7,.o (.a (.ptr 5 0)))]
def M2 (t:Nat):List (Option SV):=aJ 245 0 [(2,.o (.a (.ptr 1 0))),(3,.o (.a (.ptr 2 0))),(4,.o (.a (.ptr 3 0))),(5,.o (.a (.slg 4 len))),(6,(av .i64).enc ((at_:Nat):Int)),(7,.o (.a (.ptr 5 0))),(31,(av .i64).enc ((t:Nat):Int))]
def M3 (t:Nat):List (Option SV):=aJ 245 0 [(2,.o (.a (.ptr 1 0))),(3,.o (.a (.ptr 2 0))),(4,.o (.a (.ptr 3 0))),(5,.o (.a (.slg 4 len))),(6,(av .i64).enc ((at_:Nat):Int)),(7,.o (.a (.ptr 5 0))),(9,(av .i64).enc ((t:Nat):Int))]
def M19:List (Option SV):=aJ 245 0 [(2,.o (.a (.ptr 1 0))),(3,.o (.a (.ptr 2 0))),(4,.o (.a (.ptr 3 0))),(5,.o (.a (.slg 4 len))),(6,(av .i64).enc ((at_:Nat):Int)),(7,.o (.a (.ptr 5 0))),(12,.o (.a (.ptr 6 0)))]
def M4 (t:Nat):List (Option SV):=aJ 245 0 [(2,.o (.a (.ptr 1 0))),(3,.o (.a (.ptr 2 0))),(4,.o (.a (.ptr 3 0))),(5,.o (.a (.slg 4 len))),(6,(av .i64).enc ((at_:Nat):Int)),(7,.o (.a (.ptr 5 0))),(12,.o (.a (.ptr 6 0))),(132,(av .i64).enc ((t:Nat):Int))]
def M5 (t:Nat):List (Option SV):=aJ 245 0 [(2,.o (.a (.ptr 1 0))),(3,.o (.a (.ptr 2 0))),(4,.o (.a (.ptr 3 0))),(5,.o (.a (.slg 4 len))),(6,(av .i64).enc ((at_:Nat):Int)),(12,.o (.a (.ptr 6 0))),(214,(av .i64).enc ((t:Nat):Int))]
end
section
variable (ys:List Int) (ty:TypeId)
def dP (xs:List Int) (lo:Nat) (h:Nat→Int):List Blk:=[⟨false,ty,.pre .u8 ys⟩,⟨true,26,.lit (zeroBH.to.map (aB .u8))⟩,⟨true,93,.lit (row8 h)⟩,⟨true,94,.lit (kH.map (aB .u32))⟩,⟨true,5,.gro .u8 xs lo none⟩]
def dH (xs:List Int) (lo:Nat) (h x:Nat→Int):List Blk:=dP ys ty xs lo h++[⟨true,94,.lit (rowX x)⟩]
def fF (xs:List Int) (lo:Nat) (h x s:Nat→Int):List Blk:=dP ys ty xs lo h++[⟨true,94,.lit (rowX x)⟩,⟨true,93,.lit (row8 s)⟩]
theorem idsH (len at_ lo:Nat) (xs:List Int) (h:Nat→Int):oI (MH len at_) (dP ys ty xs lo h):=by delta oI;kernel_rfl
theorem ids7 (len at_ lo:Nat) (xs:List Int) (h:Nat→Int) (x:Nat→Int):oI (M7 len at_) (dH ys ty xs lo h x):=by delta oI;kernel_rfl
theorem fu (len at_ lo:Nat) (xs:List Int) (h:Nat→Int) (x:Nat→Int) (t:Nat):oI (M2 len at_ t) (dH ys ty xs lo h x):=by delta oI;kernel_rfl
theorem ids3 (len at_ lo:Nat) (xs:List Int) (h:Nat→Int) (x:Nat→Int) (t:Nat):oI (M3 len at_ t) (dH ys ty xs lo h x):=by delta oI;kernel_rfl
theorem ids19 (len at_ lo:Nat) (xs:List Int) (h:Nat→Int) (x:Nat→Int) (s:Nat→Int):oI (M19 len at_) (fF ys ty xs lo h x s):=by delta oI;kernel_rfl
theorem ids4 (len at_ lo:Nat) (xs:List Int) (h:Nat→Int) (x:Nat→Int) (s:Nat→Int) (t:Nat):oI (M4 len at_ t) (fF ys ty xs lo h x s):=by delta oI;kernel_rfl
theorem ids5 (len at_ lo:Nat) (xs:List Int) (h:Nat→Int) (x:Nat→Int) (s:Nat→Int) (t:Nat):oI (M5 len at_ t) (fF ys ty xs lo h x s):=by delta oI;kernel_rfl
end
def N0 (n c:Nat):List (Option SV):=aJ 245 0 [(0,.o (.a (.sld 0 0 0 n c))),(2,.o (.a (.ptr 1 0)))]
def N1 (n c:Nat):List (Option SV):=aJ 245 0 [(0,.o (.a (.sld 0 0 0 n c))),(2,.o (.a (.ptr 1 0))),(3,.o (.a (.ptr 2 0)))]
def N2 (n c:Nat):List (Option SV):=aJ 245 0 [(0,.o (.a (.sld 0 0 0 n c))),(2,.o (.a (.ptr 1 0))),(3,.o (.a (.ptr 2 0))),(4,.o (.a (.ptr 3 0)))]
def N3 (len:Nat):List (Option SV):=aJ 245 0 [(2,.o (.a (.ptr 1 0))),(3,.o (.a (.ptr 2 0))),(4,.o (.a (.ptr 3 0))),(5,.o (.a (.slg 4 len)))]
section
variable (ys:List Int) (ty:TypeId)
def mm:List Blk:=[⟨false,ty,.pre .u8 ys⟩]
def m0:List Blk:=mm ys ty++[⟨true,26,.lit (zeroBH.to.map (aB .u8))⟩]
def m1:List Blk:=m0 ys ty++[⟨true,93,.lit (row8 h0)⟩]
def m2:List Blk:=m1 ys ty++[⟨true,94,.lit (kH.map (aB .u32))⟩]
theorem idsN0 (n c:Nat):oI (N0 n c) (m0 ys ty):=by delta oI;kernel_rfl
theorem idsN1 (n c:Nat):oI (N1 n c) (m1 ys ty):=by delta oI;kernel_rfl
theorem iG (n c:Nat):oI (N2 n c) (m2 ys ty):=by delta oI;kernel_rfl
theorem idsN3 (len lo:Nat) (xs:List Int):oI (N3 len) (dP ys ty xs lo h0):=by delta oI;kernel_rfl
end
end win
end r256
theorem tT (x:Int):IntKind.u32.wrap x=x%4294967296:=by rw[IntKind.wrap_u32]
theorem u8_wrap (x:Int):IntKind.u8.wrap x=x%256:=by rw[IntKind.wrap_u8]
theorem wraps_u32 (n:Int) (h₀:0≤n) (h₁:n<2^32):IntKind.u32.wrap n=n:=by rw[tT];omega
theorem wraps_u64H (n:Int) (h₀:0≤n) (h₁:n<2^64):IntKind.u64.wrap n=n:=by rw[bN];omega
theorem rJ (i:Nat) (x y:Int) (hx0:0≤x) (hx1:x<4294967296) (hx:x%2^i=0) (hy0:0≤y) (hy:y<2^i) (hy1:y<4294967296):bits .or .u32 x y=x+y:=
 bits_join .u32 32 (by decide) wraps_u32 i x y hx0 hx hx1 hy0 hy hy1
theorem or64_add (i:Nat) (x y:Int) (hx0:0≤x) (hx1:x<18446744073709551616) (hx:x%2^i=0) (hy0:0≤y) (hy:y<2^i) (hy1:y<18446744073709551616):bits .or .u64 x y=x+y:=
 bits_join .u64 64 (by decide) wraps_u64H i x y hx0 hx hx1 hy0 hy hy1
def Byt (x:Int):Prop:=0≤x∧x<256
theorem o8 {a x:Int} (h0:0≤a) (h1:a<72057594037927936) (hx:Byt x):kT a x=a*256+x:=by
 obtain⟨x0,x1⟩:=hx
 unfold kT orU shlU
 rw[bN,bN,or64_add 8 _ _ (by omega) (by omega) (by omega) (by omega) (by omega) (by omega)]
 omega
theorem wordR_eq {a b c d:Int} (ha:Byt a) (hb:Byt b) (hc:Byt c) (hd:Byt d):wordR a b c d=IntKind.u32.wrap (cO [a,b,c,d]):=by
 have e:cO [a,b,c,d]=kT (kT (kT (kT 0 a) b) c) d:=rfl
 rw[e,o8 (by omega) (by omega) ha]
 have ha':=ha;have hb':=hb;have hc':=hc;have hd':=hd
 unfold Byt at ha' hb' hc' hd'
 rw[o8 (by omega) (by omega) hb,o8 (by omega) (by omega) hc,o8 (by omega) (by omega) hd]
 unfold wordR
 simp only[tT]
 have e1:bits .or .u32 (a%4294967296*2^24%4294967296) (b%4294967296*2^16%4294967296)=a*16777216+b*65536:=by
  rw[rJ 24 _ _ (by omega) (by omega) (by omega) (by omega) (by omega) (by omega)];omega
 rw[e1]
 have e2:bits .or .u32 (a*16777216+b*65536) (c%4294967296*2^8%4294967296)=a*16777216+b*65536+c*256:=by
  rw[rJ 16 _ _ (by omega) (by omega) (by omega) (by omega) (by omega) (by omega)];omega
 rw[e2,rJ 8 _ _ (by omega) (by omega) (by omega) (by omega) (by omega) (by omega)]
 omega
theorem lG {x:Int} {n:Nat} (h:x=(n:Int)) (hn:n<9223372036854775808):IntKind.i64.wrap x=(n:Int):=by rw[h,gV _ (by omega) (by omega)]
def refH (xs:List Int):Nat→Nat→Int
 | 0=>r256.h0
 | i+1=>nk (refH xs i) (jk fun j=>xs.getD (64*i+j) 0)
def refB (ys:List Int):B32:=outR (refH (bO ys 64 8) ((bO ys 64 8).length/64))
theorem zl (v:Int) (s:Nat):Byt (aF v s):=by
 unfold aF Byt
 rw[u8_wrap];omega
theorem wo (bt:Int):∀i,∀y∈iB bt i,Byt y
 | 0,y,h=>by cases h
 | i+1,y,h=>by
  rw[iB,List.mem_cons] at h
  rcases h with rfl | h
  ·unfold lenE
   cases Nat.ble 8 i
   ·exact zl _ _
   ·show Byt 0
    exact⟨by decide,by decide⟩
  ·exact wo bt i y h
theorem padR_byt {ys:List Int} (h:∀y∈ys,Byt y) (bk ln:Nat):∀y∈bO ys bk ln,Byt y:=by
 intro y hy
 unfold bO at hy
 simp only[List.mem_append,List.mem_singleton,List.mem_replicate] at hy
 rcases hy with hy | rfl | ⟨_,rfl⟩ | hy
 ·exact h y hy
 ·exact⟨by decide,by decide⟩
 ·exact⟨by decide,by decide⟩
 ·exact wo _ _ y hy
theorem uy (ys:List Int) (bk ln:Nat):(bO ys bk ln).length=ys.length+1+eX ys.length bk ln+ln:=by
 unfold bO
 simp only[List.length_append,List.length_singleton,List.length_replicate,iw]
 omega
theorem wD {xs:List Int} (h:∀y∈xs,Byt y) (i:Nat):Byt (xs.getD i 0):=by
 rcases Nat.lt_or_ge i xs.length with hi | hi
 ·simp only[List.getD,List.getElem?_eq_getElem hi,Option.getD_some]
  exact h _ (List.getElem_mem hi)
 ·simp only[List.getD,List.getElem?_eq_none hi,Option.getD_none]
  exact⟨by decide,by decide⟩
section
variable {Post:Ex→List SV→List Blk→Prop}
end
def wP:List aV→Option (SV × dh × Cst)
 | [.win .u8 ys n ty]=>some (ak.enc (refB ys),.none,[n≤140737488354000,∀y∈ys,Byt y])
 | [.val (.o (.a (.v (.slice _ 0 0))))]=>some (ak.enc (refB []),.none,[])
 | _=>none
end Go.Proofs.YthlmepolmemejaaGreatDoor
