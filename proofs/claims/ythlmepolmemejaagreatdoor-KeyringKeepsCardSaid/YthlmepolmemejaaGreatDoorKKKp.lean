/- The law KeyringKeeps: walked (at least one certificate). -/
import Derived.Test.YthlmepolmemejaaGreatDoorKFo
import Derived.Test.YthlmepolmemejaaGreatDoorKMade
set_option linter.unusedSimpArgs false
set_option linter.unusedVariables false
namespace Go.Proofs.YthlmepolmemejaaGreatDoor
open Go Go.Eng Go.RowKit
set_option maxRecDepth 100000
theorem wu {α:Type} (vs:List α) {k:Nat} (h:vs.length=k):(vs.drop (0+0)).take k=vs:=by
 rw[Nat.add_zero,List.drop_zero,List.take_of_length_le (by omega)]
theorem putV_len {a:Nat} {ys vs:List Value} (h:a+ys.length≤vs.length):(putV a ys vs).length=vs.length:=by
 unfold putV
 simp only[List.length_append,List.length_take,List.length_drop]
 omega
def c77:Cert:=⟨zc.k,77,zc.sig⟩
namespace lkp
noncomputable abbrev fn:=Tryz.f5
noncomputable def body:Code:=cu fn
noncomputable def R4:Code:=cs1 (bU 3 body)
noncomputable def i4:Nat:=match R4 with | .region i _ _=>i | _=>0
noncomputable def B5:Code:=bU 4 body
noncomputable def A10:Code:=cs1 (cs1 (bU 9 body))
noncomputable def L1:Code:=cL (cB (cs2 (cs1 (bU 9 body))))
noncomputable def A15:Code:=cs1 (cs1 (bU 10 body))
noncomputable def L2:Code:=cL (cB (cs2 (cs1 (bU 10 body))))
noncomputable def C19:Code:=cs1 (bU 11 body)
noncomputable def A21:Code:=cs1 (cs1 (bU 12 body))
noncomputable def L3:Code:=cL (cB (cs2 (cs1 (bU 12 body))))
noncomputable def D:Code:=bU 13 body
theorem reg4:R4= .region i4 (opsOf R4) false:=by kernel_rfl
theorem nil4:((opsOf R4).toList.drop 2).drop 4=[]:=by kernel_rfl
theorem body3:bU 3 body= .seq R4 B5:=by kernel_rfl
theorem body9:bU 5 B5= .seq (.seq A10 (.block 0 (.loop L1))) (.seq (.seq A15 (.block 2 (.loop L2))) (.seq C19 (.seq (.seq A21 (.block 4 (.loop L3))) D))):=by kernel_rfl
def MR:List (Option SV):=aH 107 0 [(4,.o (.a (.v (.bool true))))]
theorem zr (g:Nat→SV) (mm:Nat→Option Blk):eRes tys (fill g 0 MR) mm fn.results.toList=some [.a (ig true)]:=by kernel_rfl
namespace p
def m3 (S:List B32) (ty:TypeId) (E:List Int) (ty':TypeId) (F:Keys) (l:List Cert) (q:Nat):List Blk:=[⟨false,ty,.prv (bG S)⟩,⟨false,ty',.pre .u8 E⟩,⟨true,39,.grv 130 (aK l) q none⟩,⟨true,28,.lit F.row⟩]
def M3 (q:Nat):List (Option SV):=aH 107 0 [(5,.o (.a (.ptr 3 0))),(6,.o (.a (.slg 2 q)))]
section
variable (S:List B32) (ty:TypeId) (E:List Int) (ty':TypeId) (F:Keys) (l:List Cert) (q:Nat)
theorem i3:oI (M3 q) (m3 S ty E ty' F l q):=by delta oI;kernel_rfl
def m4 (us:List Value) (lo:Nat) (hi:Option Nat):List Blk:=[⟨false,ty,.prv (bG S)⟩,⟨false,ty',.pre .u8 E⟩,⟨true,39,.grv 130 (aK l) q none⟩,⟨true,28,.lit F.row⟩,⟨true,39,.grv 130 us lo hi⟩]
end
def MC (q:Nat):List (Option SV):=aH 107 0 [(5,.o (.a (.ptr 3 0))),(6,.o (.a (.slg 2 q))),(26,.o (.a (.slg 4 q)))]
def M4 (q:Nat):List (Option SV):=aH 107 0 [(5,.o (.a (.ptr 3 0))),(6,.o (.a (.slg 2 q))),(7,.o (.a (.slg 4 (q+1))))]
section
variable (S:List B32) (ty:TypeId) (E:List Int) (ty':TypeId) (F:Keys) (l:List Cert) (q:Nat)
theorem iC (us:List Value) (lo:Nat) (hi:Option Nat):oI (MC q) (m4 S ty E ty' F l q (us) (lo) (hi)):=by delta oI;kernel_rfl
theorem i4 (us:List Value) (lo:Nat) (hi:Option Nat):oI (M4 q) (m4 S ty E ty' F l q (us) (lo) (hi)):=by delta oI;kernel_rfl
theorem a4 (g:Nat→SV):oU [0,1,2,3,4] ([kcp.conP]:Cons Tryz.prog G3) R4 0 2 (fill g 0 (M3 q )) (m3 S ty E ty' F l q) [] (MC q) (m4 S ty E ty' F l q ((((aK l).drop (0+0)).take (q*130))) (q) (none)) [0+0+q*130≤(aK l).length,q≤q,(((aK l).drop (0+0)).take (q*130)).length=q*130,0<q,q≤1000000]:=by delta oU;kernel_rfl
theorem g4 (us:List Value) (g:Nat→SV):oU [0,1,2,3,4] ([]:Cons Tryz.prog G3) R4 2 4 (fill g 0 (MC q )) (m4 S ty E ty' F l q (us) (q+1) (none)) [(29,[.dyn])] (M4 q) (m4 S ty E ty' F l q (us++c77.vals) (q+1) (none)) [0+0+1*130≤130,q*130=us.length,q+1≤q+1,∀v∈c77.vals,v.oneCell'=true]:=by delta oU;kernel_rfl
theorem r4 (us:List Value) (lo:Nat) (g:Nat→SV):oU [0,1,2,3,6] ([]:Cons Tryz.prog G3) R4 2 4 (fill g 0 (MC q )) (m4 S ty E ty' F l q (us) (lo) (some (q+1))) [(29,[.dyn])] (M4 q) (m4 S ty E ty' F l q (us++c77.vals) (q+1) (none)) [0+0+1*130≤130,q*130=us.length,q+1≤q+1,Room Tryz.prog 39 (q+1)]:=by delta oU;kernel_rfl
def m5 (us ta:List Value) (r:Nat) (hi:Option Nat):List Blk:=[⟨false,ty,.prv (bG S)⟩,⟨false,ty',.pre .u8 E⟩,⟨true,39,.grv 130 (aK l) q none⟩,⟨true,39,.grv 130 us (q+1) none⟩,⟨true,28,.grv 65 ta r hi⟩,⟨true,28,.grv 65 (dM (kl l F q)) (q+1) none⟩,⟨true,28,.grv 65 (dM (kl l F q)) (q+1) none⟩]
end
def M5 (q:Nat):List (Option SV):=aH 107 0 [(6,.o (.a (.slg 2 q))),(7,.o (.a (.slg 3 (q+1)))),(8,.o (.a (.slg 3 q))),(9,.o (.a (.slg 4 (q+1)))),(11,.o (.a (.slg 5 (q+1)))),(13,.o (.a (.slg 6 (q+1))))]
def M6 (q:Nat) (j:Int):List (Option SV):=aH 107 0 [(6,.o (.a (.slg 2 q))),(7,.o (.a (.slg 3 (q+1)))),(8,.o (.a (.slg 3 q))),(9,.o (.a (.slg 4 (q+1)))),(11,.o (.a (.slg 5 (q+1)))),(13,.o (.a (.slg 6 (q+1)))),(56,.o (.a (aP .i64 (q+1)))),(57,.o (.a (aP .i64 j)))]
def M7 (q:Nat) (r:Nat) (j:Int):List (Option SV):=aH 107 0 [(6,.o (.a (.slg 2 q))),(7,.o (.a (.slg 3 (q+1)))),(8,.o (.a (.slg 3 q))),(9,.o (.a (.slg 4 r))),(11,.o (.a (.slg 5 (q+1)))),(13,.o (.a (.slg 6 (q+1)))),(65,.o (.a (aP .i64 j)))]
def M8 (q:Nat):List (Option SV):=aH 107 0 [(6,.o (.a (.slg 2 q))),(7,.o (.a (.slg 3 (q+1)))),(8,.o (.a (.slg 3 q))),(11,.o (.a (.slg 5 (q+1)))),(13,.o (.a (.slg 6 (q+1))))]
def M9 (q:Nat) (j:Int):List (Option SV):=aH 107 0 [(11,.o (.a (.slg 5 (q+1)))),(13,.o (.a (.slg 6 (q+1)))),(93,.o (.a (aP .i64 (q+1)))),(94,.o (.a (aP .i64 j)))]
def MD:List (Option SV):=aH 107 0 []
section
variable (S:List B32) (ty:TypeId) (E:List Int) (ty':TypeId) (F:Keys) (l:List Cert) (q:Nat) (us ta:List Value) (r:Nat) (hi:Option Nat)
theorem i5:oI (M5 q) (m5 S ty E ty' F l q us (ta) (r) (hi)):=by delta oI;kernel_rfl
theorem i6 (j:Int):oI (M6 q j) (m5 S ty E ty' F l q us (ta) (r) (hi)):=by delta oI;kernel_rfl
theorem i7 (s:Nat) (j:Int):oI (M7 q s j) (m5 S ty E ty' F l q us (ta) (r) (hi)):=by delta oI;kernel_rfl
theorem i8:oI (M8 q) (m5 S ty E ty' F l q us (ta) (r) (hi)):=by delta oI;kernel_rfl
theorem i9 (j:Int):oI (M9 q j) (m5 S ty E ty' F l q us (ta) (r) (hi)):=by delta oI;kernel_rfl
theorem iD:oI (MD) (m5 S ty E ty' F l q us (ta) (r) (hi)):=by delta oI;kernel_rfl
end
theorem f5 (V:Keys→Cert→Int) (hV:V=ccV) (S:List B32) (ty:TypeId) (E:List Int) (ty':TypeId) (F:Keys) (l:List Cert) (q:Nat) (us:List Value) (g:Nat→SV):oN [0,1,2,4,5,6,7] ([kch.conP V hV l,rch.conP V hV l,kat.con l]:Cons Tryz.prog G3) 100 (dY 5 B5) (fill g 0 (M4 q )) (m4 S ty E ty' F l q (us) (q+1) (none)) [] .normal (M5 q) (m5 S ty E ty' F l q us (dM (kl l F q)) (q+1) (none)) [(0:Int)≤q,(q:Int)≤((q+1:Nat):Int),0+0+q*130≤us.length,q≤q+1,((us.drop (0+0)).take (q*130))=aK l,l.length=q,q≤1000000,∀i,i<q→COk (l.getD i zc),iY V l F q=0,0<q,0+0+q*130≤us.length,q≤q+1,((us.drop (0+0)).take (q*130))=aK l,l.length=q,q≤1000000,∀i,i<q→COk (l.getD i zc),iY V l F q=0,0<q,0+0+q*130≤(aK l).length,q≤q,BOk F.sg,(((aK l).drop (0+0)).take (q*130))=aK l,l.length=q,q≤1000000,∀i,i<q→COk (l.getD i zc),iY V l F q=0,0<q,0+0+q*130≤us.length,q≤q+1,((us.drop (0+0)).take (q*130))=aK l,l.length=q,q<9223372036854775807]:=by delta oN;kernel_rfl
section
variable (S:List B32) (ty:TypeId) (E:List Int) (ty':TypeId) (F:Keys) (l:List Cert) (q:Nat) (us ta:List Value)
theorem a10 (g:Nat→SV):oX ([]:Cons Tryz.prog G3) 300 A10 (fill g 0 (M5 q )) (m5 S ty E ty' F l q us (ta) (q+1) (none)) [] .normal (M6 q 0) (m5 S ty E ty' F l q us (ta) (q+1) (none)) []:=by delta oX;kernel_rfl
theorem t1 (j j':Int) (g:Nat→SV):oX ([]:Cons Tryz.prog G3) 300 L1 (fill g 0 (M6 q j)) (m5 S ty E ty' F l q us (ta) (q+1) (none)) [(58,[.b true]),(64,[.n j'])] .normal (M6 q j') (m5 S ty E ty' F l q us (putV (0+aS 0 j 65) [.int .u64 777] ta) (q+1) (none)) [decide (j<((q+1:Nat):Int))=true,0≤j,j<((q+1:Nat):Int),0+aS 0 j 65+1≤ta.length,IntKind.i64.wrap (j+1)=j']:=by delta oX;kernel_rfl
theorem o1 (j:Int) (g:Nat→SV):oX ([]:Cons Tryz.prog G3) 300 L1 (fill g 0 (M6 q j)) (m5 S ty E ty' F l q us (ta) (q+1) (none)) [(58,[.b false])] (.exit 0) (M5 q) (m5 S ty E ty' F l q us (ta) (q+1) (none)) [decide (j<((q+1:Nat):Int))=false]:=by delta oX;kernel_rfl
theorem a15 (g:Nat→SV):oX ([]:Cons Tryz.prog G3) 300 A15 (fill g 0 (M5 q )) (m5 S ty E ty' F l q us (ta) (q+1) (none)) [] .normal (M7 q (q+1) 0) (m5 S ty E ty' F l q us (ta) (q+1) (none)) []:=by delta oX;kernel_rfl
theorem g2 (r:Nat) (j j':Int) (g:Nat→SV):oX ([]:Cons Tryz.prog G3) 300 L2 (fill g 0 (M7 q r j)) (m5 S ty E ty' F l q us (ta) (r+1) (none)) [(66,[.b true]),(70,[.dyn]),(71,[.n j'])] .normal (M7 q (r+1) j') (m5 S ty E ty' F l q us (ta++zk.vals) (r+1) (none)) [decide (j<9)=true,0+0+1*65≤65,r*65=ta.length,r+1≤r+1,∀v∈zk.vals,v.oneCell'=true,IntKind.i64.wrap (j+1)=j']:=by delta oX;kernel_rfl
theorem r2 (r lo:Nat) (j j':Int) (g:Nat→SV):oN [0,1,2,3,8,5,6] ([]:Cons Tryz.prog G3) 100 L2 (fill g 0 (M7 q r j)) (m5 S ty E ty' F l q us (ta) (lo) (some (r+1))) [(66,[.b true]),(70,[.dyn]),(71,[.n j'])] .normal (M7 q (r+1) j') (m5 S ty E ty' F l q us (ta++zk.vals) (r+1) (none)) [decide (j<9)=true,0+0+1*65≤65,r*65=ta.length,r+1≤r+1,Room Tryz.prog 28 (r+1),IntKind.i64.wrap (j+1)=j']:=by delta oN;kernel_rfl
theorem o2 (r lo:Nat) (j:Int) (g:Nat→SV):oX ([]:Cons Tryz.prog G3) 300 L2 (fill g 0 (M7 q r j)) (m5 S ty E ty' F l q us (ta) (lo) (none)) [(66,[.b false])] (.exit 2) (M8 q) (m5 S ty E ty' F l q us (ta) (lo) (none)) [decide (j<9)=false]:=by delta oX;kernel_rfl
theorem c19 (lo:Nat) (g:Nat→SV):oX ([smc.con l]:Cons Tryz.prog G3) 300 C19 (fill g 0 (M8 q )) (m5 S ty E ty' F l q us (ta) (lo) (none)) [(76,[.b false]),(83,[.ds (.o (.a (aP .u64 77)))]),(89,[.s (aV.enc true)])] .normal (M8 q) (m5 S ty E ty' F l q us (ta) (lo) (none)) [(!(((q+1:Nat):Int)==((q+1:Nat):Int)))=false,(0:Int)≤q,(q:Int)<((q+1:Nat):Int),0+(aS 0 (q:Int) 130+65)<us.length,SV.o (.a (.v (us.getD (0+(aS 0 (q:Int) 130+65)) undef)))= .o (.a (aP .u64 77)),0+0+q*130≤us.length,q≤q+1,0+0+q*130≤(aK l).length,q≤q,((us.drop (0+0)).take (q*130))=aK l,(((aK l).drop (0+0)).take (q*130))=aK l,l.length=q,q=q,q<9223372036854775807,aV.enc true=aV.enc true]:=by delta oX;kernel_rfl
theorem a21 (lo:Nat) (g:Nat→SV):oX ([]:Cons Tryz.prog G3) 300 A21 (fill g 0 (M8 q )) (m5 S ty E ty' F l q us (ta) (lo) (none)) [] .normal (M9 q 0) (m5 S ty E ty' F l q us (ta) (lo) (none)) []:=by delta oX;kernel_rfl
theorem t3 (lo:Nat) (j j':Int) (k:Keys) (g:Nat→SV):oX ([]:Cons Tryz.prog G3) 300 L3 (fill g 0 (M9 q j)) (m5 S ty E ty' F l q us (ta) (lo) (none)) [(95,[.b true]),(100,[.ds (aT.enc k)]),(104,[.ds (aT.enc k)]),(105,[.b false]),(106,[.n j'])] .normal (M9 q j') (m5 S ty E ty' F l q us (ta) (lo) (none)) [decide (j<((q+1:Nat):Int))=true,0≤j,j<((q+1:Nat):Int),0+aS 0 j 65+65≤(dM (kl l F q)).length,SV.o (.g (bT (dM (kl l F q)) (0+aS 0 j 65) 65))=aT.enc k,0≤j,j<((q+1:Nat):Int),0+aS 0 j 65+65≤(dM (kl l F q)).length,SV.o (.g (bT (dM (kl l F q)) (0+aS 0 j 65) 65))=aT.enc k,qL Tryz.prog 28 (.u64::List.replicate 64 .u8),(!(sameK k.to))=false,IntKind.i64.wrap (j+1)=j']:=by delta oX;kernel_rfl
theorem o3 (lo:Nat) (j:Int) (g:Nat→SV):oX ([]:Cons Tryz.prog G3) 300 L3 (fill g 0 (M9 q j)) (m5 S ty E ty' F l q us (ta) (lo) (none)) [(95,[.b false])] (.exit 4) (MD) (m5 S ty E ty' F l q us (ta) (lo) (none)) [decide (j<((q+1:Nat):Int))=false]:=by delta oX;kernel_rfl
theorem fin (lo:Nat) (g:Nat→SV):oN [0,1] ([]:Cons Tryz.prog G3) 100 D (fill g 0 (MD )) (m5 S ty E ty' F l q us (ta) (lo) (none)) [] .ret MR ([⟨false,ty,.prv (bG S)⟩,⟨false,ty',.pre .u8 E⟩]:List Blk) []:=by delta oN;kernel_rfl
end
theorem tail (V:Keys→Cert→Int) (hV:V=ccV) (S:List B32) (ty:TypeId) (E:List Int) (ty':TypeId) (F:Keys) (l:List Cert) (q:Nat) (hlen:l.length=q) (h0:0<q) (hq:q≤5) (hx:∀i,i<q→COk (l.getD i zc)) (hv:iY V l F q=0) (hsg:BOk F.sg) (g:Nat→SV):aL Tryz.prog G3 2 B5 (fill g 0 (M4 q)) (m4 S ty E ty' F l q (aK l++c77.vals) (q+1) none) (aM tys fn (bF (aV.enc true) .none)):=by
 have hcl:(aK l).length=q*130:=by rw[←hlen];exact fQ Cert.iM l
 have h7:c77.vals.length=130:=rfl
 have hu:(aK l++c77.vals).length=(q+1)*130:=by rw[List.length_append,hcl,h7];omega
 have dU:((aK l++c77.vals).drop (0+0)).take (q*130)=aK l:=by
  rw[Nat.add_zero,List.drop_zero,List.take_append_of_le_length (by omega),List.take_of_length_le (by omega)]
 have dW:=wu (aK l) hcl
 have hkl:=uY l F q
 have ld:∀i:Nat,i≤q→SV.o (.g (bT (dM (kl l F q)) (0+aS 0 (i:Int) 65) 65))=aT.enc (lq l F i):=fun i h=>by
  rw[kL,ld_keys _ (by rw[tZ];omega),kl_get l F _ _ h]
 have lb:∀i:Nat,i≤q→0+aS 0 (i:Int) 65+65≤(dM (kl l F q)).length:=fun i h=>by
  have:=Nat.mul_le_mul_right 65 (show i+1≤q+1 by omega)
  rw[kL,hkl];omega
 have wr:∀i:Nat,i≤100→IntKind.i64.wrap ((i:Int)+1)=((i+1:Nat):Int):=fun i h=>by rw[IntKind.wrap_i64];omega
 have e77:SV.o (.a (.v ((aK l++c77.vals).getD (0+(aS 0 (q:Int) 130+65)) undef)))= .o (.a (aP .u64 77)):=by
  have o:0+(aS 0 (q:Int) 130+65)=q*130+65:=by have:=kL q 130;omega
  have h:=ld_ep (l++[c77]) (i:=q) (by rw[List.length_append,hlen];exact Nat.lt_succ_self q)
  have e1:aK (l++[c77])=aK l++c77.vals:=by simp[aK]
  have e2:(l++[c77]).getD q zc=c77:=by rw[List.getD_eq_getElem?_getD,List.getElem?_append_right (by omega),hlen,Nat.sub_self];rfl
  rw[e1,e2] at h
  rw[o]
  exact h
 have l77:0+(aS 0 (q:Int) 130+65)<(aK l++c77.vals).length:=by have:=kL q 130;omega
 have q5:=f5 V hV S ty E ty' F l q (aK l++c77.vals) g
 rw[dU,dW] at q5
 refine Runs.qB ah mixed 5 [0,1,2,4,5,6,7] q5 ⟨by omega,by omega,by omega,by omega,rfl,hlen,by omega,hx,hv,h0,by omega,by omega,rfl,hlen,by omega,hx,hv,h0,by omega,Nat.le_refl _,hsg,rfl,hlen,by omega,hx,hv,h0,by omega,by omega,rfl,hlen,by omega,trivial⟩ (i5 S ty E ty' F l q _ _ _ _) (by kernel_rfl) fun g=> ?_
 rw[body9]
 refine Runs.seq (Runs.seq (Runs.au ah mixed (a10 S ty E ty' F l q _ _ g) trivial (i6 S ty E ty' F l q _ _ _ _ 0) rfl fun g=> ?_))
 refine Runs.block ?_
 generalize huv:aK l++c77.vals=us at hu dU e77 l77 ⊢
 refine Runs.dL (fun(s:Nat × List Value)=>M6 q ((s.1:Nat):Int)) (fun s=>m5 S ty E ty' F l q us s.2 (q+1) none) (fun s=>s.1≤q+1∧s.2.length=(q+1)*65) (fun s=>q+1-s.1) ?_ (0,_) ⟨Nat.zero_le _,hkl⟩ g
 rintro⟨i,ta⟩ g ⟨hi,hta⟩
 have hi:i≤q+1:=hi
 have hta:ta.length=(q+1)*65:=hta
 by_cases hin:i=q+1
 ·refine Runs.au ah mixed (o1 S ty E ty' F l q us ta (i:Int) g) ⟨decide_eq_false (by omega),trivial⟩ (i5 S ty E ty' F l q _ _ _ _) rfl fun g=> ?_
  show aL _ _ _ _ _ _ _
  refine Runs.seq (Runs.seq (Runs.au ah mixed (a15 S ty E ty' F l q us ta g) trivial (i7 S ty E ty' F l q _ _ _ _ _ 0) rfl fun g=> ?_))
  refine Runs.block ?_
  refine Runs.dL (fun(s:Nat × List Value)=>M7 q (q+1+s.1) ((s.1:Nat):Int)) (fun s=>m5 S ty E ty' F l q us s.2 (q+1+s.1) none) (fun s=>s.1≤9∧s.2.length=(q+1+s.1)*65) (fun s=>9-s.1) ?_ (0,ta) ⟨Nat.zero_le _,hta⟩ g
  rintro⟨j,tb⟩ g ⟨hj,htb⟩
  have hj:j≤9:=hj
  have htb:tb.length=(q+1+j)*65:=htb
  by_cases hjn:j=9
  ·refine Runs.au ah mixed (o2 S ty E ty' F l q us tb (q+1+j) (q+1+j) (j:Int) g) ⟨decide_eq_false (by omega),trivial⟩ (i8 S ty E ty' F l q _ _ _ _) rfl fun g=> ?_
   show aL _ _ _ _ _ _ _
   have qc:=c19 S ty E ty' F l q us tb (q+1+j) g
   rw[dU,dW] at qc
   refine Runs.seq (Runs.au ah mixed qc ⟨by simp,by omega,by omega,l77,e77,by omega,by omega,by omega,Nat.le_refl _,rfl,rfl,hlen,rfl,by omega,rfl,trivial⟩ (i8 S ty E ty' F l q _ _ _ _) rfl fun g=> ?_)
   refine Runs.seq (Runs.seq (Runs.au ah mixed (a21 S ty E ty' F l q us tb (q+1+j) g) trivial (i9 S ty E ty' F l q _ _ _ _ 0) rfl fun g=> ?_))
   refine Runs.block ?_
   refine Runs.dL (fun(k:Nat)=>M9 q (k:Int)) (fun _=>m5 S ty E ty' F l q us tb (q+1+j) none) (fun k=>k≤q+1) (fun k=>q+1-k) ?_ 0 (Nat.zero_le _) g
   rintro k g hk
   by_cases hkn:k=q+1
   ·refine Runs.au ah mixed (o3 S ty E ty' F l q us tb _ (k:Int) g) ⟨decide_eq_false (by omega),trivial⟩ (iD S ty E ty' F l q _ _ _ _) rfl fun g=> ?_
    show aL _ _ _ _ _ _ _
    exact Runs.bS ah mixed [0,1] (fin S ty E ty' F l q us tb _ g) trivial (by kernel_rfl) rfl fun g=>aM.ret (zr g _) rfl
   ·exact Runs.au ah mixed (t3 S ty E ty' F l q us tb _ (k:Int) ((k+1:Nat):Int) (lq l F k) g) ⟨decide_eq_true (by omega),by omega,by omega,lb k (by omega),ld k (by omega),by omega,by omega,lb k (by omega),ld k (by omega),flat_keys,by rw[vL];rfl,wr k (by omega),trivial⟩ (i9 S ty E ty' F l q _ _ _ _ _) rfl fun g=>⟨k+1,g,rfl,rfl,by omega,by omega⟩
  ·have hl:(tb++zk.vals).length=(q+1+(j+1))*65:=by rw[List.length_append,htb,show zk.vals.length=65 from rfl];omega
   have er:q+1+j+1=q+1+(j+1):=by omega
   show aL _ _ _ _ (fill g 0 (M7 q (q+1+j) (j:Int))) (m5 S ty E ty' F l q us tb (q+1+j) none) _
   refine Runs.roomV 4 (q+1+j+1) (own:=true) (ty:=28) (s:=65) (vs:=tb) (lo:=q+1+j) rfl ?_ ?_
   ·exact Runs.au ah mixed (g2 S ty E ty' F l q us tb (q+1+j) (j:Int) ((j+1:Nat):Int) g) ⟨decide_eq_true (by omega),by decide,by omega,Nat.le_refl _,oneV zk,wr j (by omega),trivial⟩ (i7 S ty E ty' F l q _ _ _ _ _ _) rfl fun g=>⟨(j+1,tb++zk.vals),g,by rw[er],by rw[er],⟨by show j+1≤9;omega,hl⟩,by show 9-(j+1)<9-j;omega⟩
   ·exact Runs.bS ah mixed [0,1,2,3,8,5,6] (r2 S ty E ty' F l q us tb (q+1+j) (q+1+j) (j:Int) ((j+1:Nat):Int) g) ⟨decide_eq_true (by omega),by decide,by omega,Nat.le_refl _,roomK _ (by omega),wr j (by omega),trivial⟩ (i7 S ty E ty' F l q _ _ _ _ _ _) rfl fun g=>⟨(j+1,tb++zk.vals),g,by rw[er],by rw[er],⟨by show j+1≤9;omega,hl⟩,by show 9-(j+1)<9-j;omega⟩
 ·have o65:=kL i 65
  have hb:0+aS 0 (i:Int) 65+1≤ta.length:=by
   have:=Nat.mul_le_mul_right 65 (show i+1≤q+1 by omega)
   rw[o65,hta];omega
  exact Runs.au ah mixed (t1 S ty E ty' F l q us ta (i:Int) ((i+1:Nat):Int) g) ⟨decide_eq_true (by omega),by omega,by omega,hb,wr i (by omega),trivial⟩ (i6 S ty E ty' F l q _ _ _ _ _) rfl fun g=>⟨(i+1,_),g,rfl,rfl,⟨by show i+1≤q+1;omega,by show(putV (0+aS 0 (i:Int) 65) [Value.int .u64 777] ta).length=_;rw[putV_len (by show _+1≤_;exact hb)];exact hta⟩,by show q+1-(i+1)<q+1-i;omega⟩
theorem mid (V:Keys→Cert→Int) (hV:V=ccV) (S:List B32) (ty:TypeId) (E:List Int) (ty':TypeId) (F:Keys) (l:List Cert) (q:Nat) (hlen:l.length=q) (h0:0<q) (hq:q≤5) (hx:∀i,i<q→COk (l.getD i zc)) (hv:iY V l F q=0) (hsg:BOk F.sg) (g:Nat→SV):aL Tryz.prog G3 2 (bU 3 body) (fill g 0 (M3 q)) (m3 S ty E ty' F l q) (aM tys fn (bF (aV.enc true) .none)):=by
 have hcl:(aK l).length=q*130:=by rw[←hlen];exact fQ Cert.iM l
 have dW:=wu (aK l) hcl
 rw[body3]
 refine Runs.seq ?_
 rw[reg4]
 refine Runs.region ?_
 have qa:=a4 S ty E ty' F l q g
 rw[dW] at qa
 refine aZ.bS ah 2 [0,1,2,3,4] qa ⟨by omega,Nat.le_refl _,hcl,h0,by omega,trivial⟩ (iC S ty E ty' F l q _ _ _) rfl fun g=> ?_
 refine aZ.roomV 4 (q+1) (own:=true) (ty:=39) (s:=130) (vs:=aK l) (lo:=q) rfl ?_ ?_
 ·refine aZ.bS ah 4 [0,1,2,3,4] (g4 S ty E ty' F l q (aK l) g) ⟨by decide,by omega,Nat.le_refl _,oneC c77,trivial⟩ (i4 S ty E ty' F l q _ _ _) rfl fun g=> ?_
  rw[nil4]
  exact aZ.nil (tail V hV S ty E ty' F l q hlen h0 hq hx hv hsg g)
 ·refine aZ.bS ah 4 [0,1,2,3,6] (r4 S ty E ty' F l q (aK l) q g) ⟨by decide,by omega,Nat.le_refl _,kcp.tH _ (by omega),trivial⟩ (i4 S ty E ty' F l q _ _ _) rfl fun g=> ?_
  rw[nil4]
  exact aZ.nil (tail V hV S ty E ty' F l q hlen h0 hq hx hv hsg g)
end p
namespace pww
theorem s (C:B32→Keys→Int→Cert) (hC:C=bL) (V:Keys→Cert→Int) (hV:V=ccV) (S:List B32) (n c:Nat) (ty:TypeId) (E:List Int) (m d:Nat) (ty':TypeId) (F:Keys) (l:List Cert) (q:Nat):oN [0,1,2,3] ([ru,mad.conP C hC S F l q]:Cons Tryz.prog G3) 100 (dY 3 body) (aF fn [.o (.a (.sld 0 0 0 n c)),.o (.a (.sld 1 0 0 m d))]) ([⟨false,ty,.prv (bG S)⟩,⟨false,ty',.pre .u8 E⟩]:List Blk) [] .normal (p.M3 q) (p.m3 S ty E ty' F l q) [0+0+n*32≤(bG S).length,n≤c,0+0+m≤E.length,m≤d,(((bG S).drop (0+0)).take (n*32))=bG S,S.length=n,n≤9223372036854775807,∀i,i<n→BOk (S.getD i aG),F=bA (S.getD 0 aG) 0,BOk aG,q=mkN n,0<q,l=mkL C S ((E.drop (0+0)).take m) q]:=by delta oN;kernel_rfl
theorem run (C:B32→Keys→Int→Cert) (hC:C=bL) (V:Keys→Cert→Int) (hV:V=ccV) (S:List B32) (n c:Nat) (ty:TypeId) (E:List Int) (m d:Nat) (ty':TypeId) (F:Keys) (l:List Cert) (q:Nat) (hn:S.length=n) (hc:n≤c) (hm:n≤9223372036854775807) (hS:∀i,i<n→BOk (S.getD i aG)) (hF:F=bA (S.getD 0 aG) 0) (hz:BOk aG) (hq:q=mkN n) (h0:0<q) (hE:E.length=m) (hd:m≤d) (hl:l=mkL C S E q) (h5:q≤5) (hlen:l.length=q) (hx:∀i,i<q→COk (l.getD i zc)) (hv:iY V l F q=0) (hsg:BOk F.sg):
  aL Tryz.prog G3 2 body (aF fn [.o (.a (.sld 0 0 0 n c)),.o (.a (.sld 1 0 0 m d))]) [⟨false,ty,.prv (bG S)⟩,⟨false,ty',.pre .u8 E⟩] (aM tys fn (bF (aV.enc true) .none)):=
 Runs.qB ah mixed 3 [0,1,2,3] (s C hC V hV S n c ty E m d ty' F l q ) ⟨by rw[show(bG S).length=n*32 from by rw[←hn];exact fQ jO S];omega,hc,by omega,hd,wu _ (by rw[←hn];exact fQ jO S),hn,hm,hS,hF,hz,hq,h0,by rw[show(E.drop (0+0)).take m=E from wu _ hE];exact hl,trivial⟩ (p.i3 S ty E ty' F l q ) (by kernel_rfl) fun g=>p.mid V hV S ty E ty' F l q hlen h0 h5 hx hv hsg g
end pww
namespace pwv
theorem s (C:B32→Keys→Int→Cert) (hC:C=bL) (V:Keys→Cert→Int) (hV:V=ccV) (S:List B32) (n c:Nat) (ty:TypeId) (a:Option Addr) (ty':TypeId) (F:Keys) (l:List Cert) (q:Nat):oN [0,1,2,3] ([ru,mad.conP C hC S F l q]:Cons Tryz.prog G3) 100 (dY 3 body) (aF fn [.o (.a (.sld 0 0 0 n c)),.o (.a (.v (.slice a 0 0)))]) ([⟨false,ty,.prv (bG S)⟩,⟨false,ty',.pre .u8 []⟩]:List Blk) [] .normal (p.M3 q) (p.m3 S ty [] ty' F l q) [0+0+n*32≤(bG S).length,n≤c,(((bG S).drop (0+0)).take (n*32))=bG S,S.length=n,n≤9223372036854775807,∀i,i<n→BOk (S.getD i aG),F=bA (S.getD 0 aG) 0,BOk aG,q=mkN n,0<q,l=mkL C S [] q]:=by delta oN;kernel_rfl
theorem run (C:B32→Keys→Int→Cert) (hC:C=bL) (V:Keys→Cert→Int) (hV:V=ccV) (S:List B32) (n c:Nat) (ty:TypeId) (a:Option Addr) (ty':TypeId) (F:Keys) (l:List Cert) (q:Nat) (hn:S.length=n) (hc:n≤c) (hm:n≤9223372036854775807) (hS:∀i,i<n→BOk (S.getD i aG)) (hF:F=bA (S.getD 0 aG) 0) (hz:BOk aG) (hq:q=mkN n) (h0:0<q) (hl:l=mkL C S [] q) (h5:q≤5) (hlen:l.length=q) (hx:∀i,i<q→COk (l.getD i zc)) (hv:iY V l F q=0) (hsg:BOk F.sg):
  aL Tryz.prog G3 2 body (aF fn [.o (.a (.sld 0 0 0 n c)),.o (.a (.v (.slice a 0 0)))]) [⟨false,ty,.prv (bG S)⟩,⟨false,ty',.pre .u8 []⟩] (aM tys fn (bF (aV.enc true) .none)):=
 Runs.qB ah mixed 3 [0,1,2,3] (s C hC V hV S n c ty a ty' F l q ) ⟨by rw[show(bG S).length=n*32 from by rw[←hn];exact fQ jO S];omega,hc,wu _ (by rw[←hn];exact fQ jO S),hn,hm,hS,hF,hz,hq,h0,hl,trivial⟩ (p.i3 S ty [] ty' F l q ) (by kernel_rfl) fun g=>p.mid V hV S ty [] ty' F l q hlen h0 h5 hx hv hsg g
end pwv
end lkp
end Go.Proofs.YthlmepolmemejaaGreatDoor
