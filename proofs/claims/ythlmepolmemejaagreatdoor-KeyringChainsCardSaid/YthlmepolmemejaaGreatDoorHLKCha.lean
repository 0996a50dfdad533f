/- The law of chains of certificates: walked. -/
import Derived.Test.YthlmepolmemejaaGreatDoorHFo
import Derived.Test.YthlmepolmemejaaGreatDoorHMade
namespace Go.Proofs.YthlmepolmemejaaGreatDoor
open Go Go.Eng Go.RowKit
set_option linter.unusedVariables false
set_option linter.unusedSimpArgs false
set_option maxRecDepth 100000
theorem tk_all {α:Type} (vs:List α) {k:Nat} (h:vs.length=k):(vs.drop (0+0)).take k=vs:=by
 rw[Nat.add_zero,List.drop_zero,List.take_of_length_le (by omega)]
namespace lch
noncomputable abbrev fn:=Tryz.f3
noncomputable def body:Code:=bL fn
noncomputable def A1:Code:=cs1 (cs1 (csuf 6 body))
noncomputable def L:Code:=cL (cB (cs2 (cs1 (csuf 6 body))))
noncomputable def D:Code:=cs2 (csuf 6 body)
theorem suf_eq:csuf 6 body= .seq (.seq A1 (.block 0 (.loop L))) D:=by kernel_rfl
noncomputable def Γ (C:B32→Keys→Int→Cert) (hC:C=aW) (V:Keys→Cert→Int) (hV:V=ccV) (S:List B32) (F:Keys) (l:List Cert) (q:Nat):Cons Tryz.prog G3:=[kawake_con,mad.conP C hC S F l q,kcp.conP,kch.conP V hV l,kat.con l]
namespace ww
def M0 (q:Nat) (ep:Int):List (Option SV):=aC 82 0 [(2,.o (.a (int1 .u64 ep))),(7,.o (.a (.ptr 3 0))),(8,.o (.a (.slg 2 q))),(9,.o (.a (.slg 4 (q+1)))),(11,.o (.a (.ptr 5 0)))]
def M1 (q:Nat) (ep:Int) (j:Int):List (Option SV):=aC 82 0 [(2,.o (.a (int1 .u64 ep))),(7,.o (.a (.ptr 3 0))),(8,.o (.a (.slg 2 q))),(9,.o (.a (.slg 4 (q+1)))),(11,.o (.a (.ptr 5 0))),(47,.o (.a (.v (.int .i64 q)))),(48,.o (.a (.v (.int .i64 j))))]
def MD (q:Nat) (ep:Int):List (Option SV):=aC 82 0 [(2,.o (.a (int1 .u64 ep))),(7,.o (.a (.ptr 3 0))),(8,.o (.a (.slg 2 q))),(11,.o (.a (.ptr 5 0)))]
def MZ:List (Option SV):=aC 82 0 [(6,.o (.a (bool1 true)))]
section
variable (S:List B32) (F:Keys) (l:List Cert) (q:Nat) (ty:TypeId)
def mem (E:List Int) (ty':TypeId) (r:Keys):List Blk:=[⟨false,ty,.prv (bg S)⟩,⟨false,ty',.pre .u8 E⟩,⟨true,39,.grv 130 (aJ l) q none⟩,⟨true,28,.lit F.row⟩,⟨true,28,.grv 65 (kvals (kl l F q)) (q+1) none⟩,⟨true,28,.lit r.row⟩]
theorem ids0 (ep:Int) (E:List Int) (ty':TypeId) (r:Keys):oI (M0 q ep) (mem S F l q ty E ty' r):=by delta oI;kernel_rfl
theorem ids1 (ep:Int) (E:List Int) (ty':TypeId) (j:Int) (r:Keys):oI (M1 q ep j) (mem S F l q ty E ty' r):=by delta oI;kernel_rfl
theorem idsD (ep:Int) (E:List Int) (ty':TypeId) (r:Keys):oI (MD q ep) (mem S F l q ty E ty' r):=by delta oI;kernel_rfl
theorem idsZ (E:List Int) (ty':TypeId) (r:Keys):oI (MZ) (mem S F l q ty E ty' r):=by delta oI;kernel_rfl
end
section
variable (C:B32→Keys→Int→Cert) (hC:C=aW) (V:Keys→Cert→Int) (hV:V=ccV) (S:List B32) (F:Keys) (l:List Cert)
theorem s0 (q n c:Nat) (ty:TypeId) (ep:Int) (E:List Int) (m d:Nat) (ty':TypeId) (e:Int):oN [0,1,2,3,5,6] (Γ C hC V hV S F l q) 100 (cpre 6 body) (aB fn [.o (.a (.sld 0 0 0 n c)),.o (.a (.sld 1 0 0 m d)),.o (.a (int1 .u64 ep))]) [⟨false,ty,.prv (bg S)⟩,⟨false,ty',.pre .u8 E⟩] [(35,[.n e]),(36,[.b false]),(41,[.ds (aK.enc F)]),(43,[.b false])] .normal (M0 q ep) (mem S F l q ty E ty' F) [0+0+n*32≤(bg S).length,n≤c,0+0+m≤E.length,m≤d,(((bg S).drop (0+0)).take (n*32))=bg S,S.length=n,n≤9223372036854775807,∀i,i<n→BOk (S.getD i aA),F=aQ (S.getD 0 aA) 0,BOk aA,q=mkN n,0<q,l=mkL C S ((E.drop (0+0)).take m) q,0+0+q*130≤(aJ l).length,q≤q,(((aJ l).drop (0+0)).take (q*130)).length=q*130,0<q,q≤1000000,0+0+q*130≤(((aJ l).drop (0+0)).take (q*130)).length,q≤q,(((((aJ l).drop (0+0)).take (q*130)).drop (0+0)).take (q*130))=aJ l,l.length=q,q≤1000000,∀i,i<q→COk (l.getD i zc),errN V l F q=0,0<q,IntKind.i64.wrap ((q:Int)+1)=e,(!(((q+1:Nat):Int)==e))=false,(0:Int)≤0,(0:Int)<((q+1:Nat):Int),(0+offI 0 0 65)+65≤(kvals (kl l F q)).length,SV.o (.g (bF (kvals (kl l F q)) (0+offI 0 0 65) 65))=aK.enc F,FlatEq Tryz.prog 28 (.u64::List.replicate 64 .u8),(!(sameK F.to))=false]:=by delta oN;kernel_rfl
theorem a1 (q:Nat) (ty:TypeId) (ep:Int) (E:List Int) (ty':TypeId) (r:Keys) (g:Nat→SV):oX (Γ C hC V hV S F l q) 100 A1 (fill g 0 (M0 q ep )) (mem S F l q ty E ty' r) [] .normal (M1 q ep 0) (mem S F l q ty E ty' r) []:=by delta oX;kernel_rfl
theorem hit (q n:Nat) (ty:TypeId) (ep:Int) (E:List Int) (ty':TypeId) (j j' y:Int) (x r:Keys) (g:Nat→SV):oX (Γ C hC V hV S F l q) 100 L (fill g 0 (M1 q ep j)) (mem S F l q ty E ty' r) [(49,[.b true]),(53,[.n j']),(55,[.ds (aK.enc x)]),(60,[.ds (aK.enc x)]),(61,[.b false]),(66,[.ds (.o (.a (int1 .u64 y)))]),(68,[.b true]),(73,[.ds (aK.enc x)]),(74,[.n j'])] .normal (M1 q ep j') (mem S F l q ty E ty' x) [decide (j<q)=true,IntKind.i64.wrap (j+1)=j',0≤j',j'<((q+1:Nat):Int),(0+offI 0 j' 65)+65≤(kvals (kl l F q)).length,SV.o (.g (bF (kvals (kl l F q)) (0+offI 0 j' 65) 65))=aK.enc x,(0:Int)≤j,(j:Int)<q,(0+offI 0 j 130)+65≤(aJ l).length,SV.o (.g (bF (aJ l) (0+offI 0 j 130) 65))=aK.enc x,FlatEq Tryz.prog 28 (.u64::List.replicate 64 .u8),(!(sameK x.to))=false,(0:Int)≤j,(j:Int)<q,(0+offI 0 j 130+65)<(aJ l).length,SV.o (.a (.v ((aJ l).getD (0+offI 0 j 130+65) undef)))= .o (.a (int1 .u64 y)),decide (y≤ep)=true,(0:Int)≤j,(j:Int)<q,(0+offI 0 j 130)+65≤(aJ l).length,SV.o (.g (bF (aJ l) (0+offI 0 j 130) 65))=aK.enc x,IntKind.i64.wrap (j+1)=j']:=by delta oX;kernel_rfl
theorem stp (q n:Nat) (ty:TypeId) (ep:Int) (E:List Int) (ty':TypeId) (j j' y:Int) (x r:Keys) (g:Nat→SV):oX (Γ C hC V hV S F l q) 100 L (fill g 0 (M1 q ep j)) (mem S F l q ty E ty' r) [(49,[.b true]),(53,[.n j']),(55,[.ds (aK.enc x)]),(60,[.ds (aK.enc x)]),(61,[.b false]),(66,[.ds (.o (.a (int1 .u64 y)))]),(68,[.b false]),(74,[.n j'])] .normal (M1 q ep j') (mem S F l q ty E ty' r) [decide (j<q)=true,IntKind.i64.wrap (j+1)=j',0≤j',j'<((q+1:Nat):Int),(0+offI 0 j' 65)+65≤(kvals (kl l F q)).length,SV.o (.g (bF (kvals (kl l F q)) (0+offI 0 j' 65) 65))=aK.enc x,(0:Int)≤j,(j:Int)<q,(0+offI 0 j 130)+65≤(aJ l).length,SV.o (.g (bF (aJ l) (0+offI 0 j 130) 65))=aK.enc x,FlatEq Tryz.prog 28 (.u64::List.replicate 64 .u8),(!(sameK x.to))=false,(0:Int)≤j,(j:Int)<q,(0+offI 0 j 130+65)<(aJ l).length,SV.o (.a (.v ((aJ l).getD (0+offI 0 j 130+65) undef)))= .o (.a (int1 .u64 y)),decide (y≤ep)=false,IntKind.i64.wrap (j+1)=j']:=by delta oX;kernel_rfl
theorem out (q:Nat) (ty:TypeId) (ep:Int) (E:List Int) (ty':TypeId) (j:Int) (r:Keys) (g:Nat→SV):oX (Γ C hC V hV S F l q) 100 L (fill g 0 (M1 q ep j)) (mem S F l q ty E ty' r) [(49,[.b false])] (.exit 0) (MD q ep) (mem S F l q ty E ty' r) [decide (j<q)=false]:=by delta oX;kernel_rfl
theorem fin (q:Nat) (ty:TypeId) (ep:Int) (E:List Int) (ty':TypeId) (r:Keys) (g:Nat→SV):oX (Γ C hC V hV S F l q) 100 D (fill g 0 (MD q ep )) (mem S F l q ty E ty' r) [(79,[.s (aK.enc r)]),(81,[.b true])] .ret (MZ) (mem S F l q ty E ty' r) [0+0+q*130≤(aJ l).length,q≤q,(((aJ l).drop (0+0)).take (q*130)).length=q*130,0<q,q≤1000000,0+0+q*130≤(((aJ l).drop (0+0)).take (q*130)).length,q≤q,(((((aJ l).drop (0+0)).take (q*130)).drop (0+0)).take (q*130))=aJ l,l.length=q,q<9223372036854775807,aK.enc (atN l ep F q)=aK.enc r,FlatEq Tryz.prog 28 (.u64::List.replicate 64 .u8),sameK r.to=true]:=by delta oX;kernel_rfl
end
theorem zr (S:List B32) (F:Keys) (l:List Cert) (q:Nat) (ty:TypeId) (E:List Int) (ty':TypeId) (r:Keys) (g:Nat→SV):eRes tys (fill g 0 (MZ )) (fun q'=>(mem S F l q ty E ty' r)[q']?) fn.results.toList=some [.a (bool1 true)]:=by kernel_rfl
theorem run (C:B32→Keys→Int→Cert) (hC:C=aW) (V:Keys→Cert→Int) (hV:V=ccV) (S:List B32) (F:Keys) (l:List Cert) (q n c:Nat) (ty:TypeId) (ep:Int) (E:List Int) (m d:Nat) (ty':TypeId) (hn:S.length=n) (hc:n≤c) (hE:E.length=m) (hd:m≤d) (hm:n≤9223372036854775807) (hS:∀i,i<n→BOk (S.getD i aA)) (hz:BOk aA) (hF:F=aQ (S.getD 0 aA) 0) (hq:q=mkN n) (h0:0<q) (hl:l=mkL C S E q) (hx:∀i,i<q→COk (l.getD i zc)) (hv:errN V l F q=0):
  aD Tryz.prog G3 2 body (aB fn [.o (.a (.sld 0 0 0 n c)),.o (.a (.sld 1 0 0 m d)),.o (.a (int1 .u64 ep))]) [⟨false,ty,.prv (bg S)⟩,⟨false,ty',.pre .u8 E⟩] (aF tys fn (aX (bE.enc true) .none)):=by
 have h5:q≤5:=by rw[hq];unfold mkN;omega
 have hlen:l.length=q:=by rw[hl,mkL_len]
 have hcl:(aJ l).length=q*130:=by rw[←hlen];exact flat_len Cert.vals_len l
 have hsl:(bg S).length=n*32:=by rw[←hn];exact flat_len b32v_len S
 have hw:=tk_all (aJ l) hcl
 have hkl:=kvals_len l F q
 have ld:∀i:Nat,i≤q→SV.o (.g (bF (kvals (kl l F q)) (0+offI 0 (i:Int) 65) 65))=aK.enc (keyN l F i):=fun i h=>by
  rw[offs,ld_keys _ (by rw[kl_len];omega),kl_get l F _ _ h]
 have lb:∀i:Nat,i≤q→0+offI 0 (i:Int) 65+65≤(kvals (kl l F q)).length:=fun i h=>by
  have:=Nat.mul_le_mul_right 65 (show i+1≤q+1 by omega)
  rw[offs,hkl];omega
 have cp:0+0+q*130≤(aJ l).length:=by rw[hcl];omega
 have hw2:((((aJ l).drop (0+0)).take (q*130)).drop (0+0)).take (q*130)=aJ l:=by rw[hw,hw]
 have hwl:(((aJ l).drop (0+0)).take (q*130)).length=q*130:=by rw[hw,hcl]
 refine Runs.of_outNP ah mixed 6 _ (s0 C hC V hV S F l q n c ty ep E m d ty' ((q+1:Nat):Int)) ⟨by omega,hc,by omega,hd,tk_all _ hsl,hn,hm,hS,hF,hz,hq,h0,by rw[tk_all _ hE];exact hl,cp,Nat.le_refl _,hwl,h0,by omega,by rw[hw];exact cp,Nat.le_refl _,hw2,hlen,by omega,hx,hv,h0,by rw[IntKind.wrap_i64];omega,by simp,by omega,by omega,lb 0 (by omega),ld 0 (by omega),dB,by rw[bY];rfl,trivial⟩ (ids0 S F l q ty ep E ty' _) rfl fun g=> ?_
 rw[suf_eq]
 refine Runs.seq (Runs.seq (Runs.aj ah mixed (a1 C hC V hV S F l q ty ep E ty' _ g) trivial (ids1 S F l q ty ep E ty' 0 _) rfl fun g=> ?_))
 refine Runs.block ?_
 refine Runs.loopX (fun(i:Nat)=>M1 q ep (i:Int)) (fun i=>mem S F l q ty E ty' (atN l ep F i)) (fun i=>i≤q) (fun i=>q-i) ?_ 0 (Nat.zero_le _) g
 rintro i g hi
 by_cases hin:i=q
 ·rw[hin]
  refine Runs.aj ah mixed (out C hC V hV S F l q ty ep E ty' _ _ g) ⟨decide_eq_false (by omega),trivial⟩ (idsD S F l q ty ep E ty' _) rfl fun g=> ?_
  show aD _ _ _ _ _ _ _
  exact Runs.aj ah mixed (fin C hC V hV S F l q ty ep E ty' (atN l ep F q) g) ⟨cp,Nat.le_refl _,hwl,h0,by omega,by rw[hw];exact cp,Nat.le_refl _,hw2,hlen,by omega,rfl,dB,bY _,trivial⟩ (idsZ S F l q ty E ty' _) rfl fun g=>aF.ret (zr S F l q ty E ty' _ g) rfl
 ·have hiq:i<q:=by omega
  have hb:i*130+130≤q*130:=by have:=Nat.mul_le_mul_right 130 (show i+1≤q by omega);omega
  have o1:0+offI 0 (i:Int) 130+65≤(aJ l).length:=by rw[offs,hcl];omega
  have o2:0+offI 0 (i:Int) 130+65<(aJ l).length:=by rw[offs,hcl];omega
  have l1:SV.o (.g (bF (aJ l) (0+offI 0 (i:Int) 130) 65))=aK.enc (l.getD i zc).k:=by rw[offs];exact ld_ckeys l (by omega)
  have l2:SV.o (.a (.v ((aJ l).getD (0+offI 0 (i:Int) 130+65) undef)))= .o (.a (int1 .u64 (l.getD i zc).ep)):=by rw[offs];exact ld_ep l (by omega)
  have hw1:IntKind.i64.wrap ((i:Int)+1)=((i+1:Nat):Int):=by rw[IntKind.wrap_i64];omega
  cases hd:decide ((l.getD i zc).ep≤ep) with
  | false=>
   refine Runs.aj ah mixed (stp C hC V hV S F l q n ty ep E ty' (i:Int) ((i+1:Nat):Int) (l.getD i zc).ep (l.getD i zc).k (atN l ep F i) g) ⟨decide_eq_true (by omega),hw1,by omega,by omega,lb (i+1) (by omega),ld (i+1) (by omega),by omega,by omega,o1,l1,dB,by rw[bY];rfl,by omega,by omega,o2,l2,hd,hw1,trivial⟩ (ids1 S F l q ty ep E ty' _ _) rfl fun g=> ?_
   exact⟨i+1,g,rfl,by rw[atN,hd,cond_false],by omega,by omega⟩
  | true=>
   refine Runs.aj ah mixed (hit C hC V hV S F l q n ty ep E ty' (i:Int) ((i+1:Nat):Int) (l.getD i zc).ep (l.getD i zc).k (atN l ep F i) g) ⟨decide_eq_true (by omega),hw1,by omega,by omega,lb (i+1) (by omega),ld (i+1) (by omega),by omega,by omega,o1,l1,dB,by rw[bY];rfl,by omega,by omega,o2,l2,hd,by omega,by omega,o1,l1,hw1,trivial⟩ (ids1 S F l q ty ep E ty' _ _) rfl fun g=> ?_
   exact⟨i+1,g,rfl,by rw[atN,hd,cond_true],by omega,by omega⟩
end ww
namespace wv
def M0 (q:Nat) (ep:Int) (a:Option Addr):List (Option SV):=aC 82 0 [(2,.o (.a (int1 .u64 ep))),(7,.o (.a (.ptr 2 0))),(8,.o (.a (.slg 1 q))),(9,.o (.a (.slg 3 (q+1)))),(11,.o (.a (.ptr 4 0)))]
def M1 (q:Nat) (ep:Int) (a:Option Addr) (j:Int):List (Option SV):=aC 82 0 [(2,.o (.a (int1 .u64 ep))),(7,.o (.a (.ptr 2 0))),(8,.o (.a (.slg 1 q))),(9,.o (.a (.slg 3 (q+1)))),(11,.o (.a (.ptr 4 0))),(47,.o (.a (.v (.int .i64 q)))),(48,.o (.a (.v (.int .i64 j))))]
def MD (q:Nat) (ep:Int) (a:Option Addr):List (Option SV):=aC 82 0 [(2,.o (.a (int1 .u64 ep))),(7,.o (.a (.ptr 2 0))),(8,.o (.a (.slg 1 q))),(11,.o (.a (.ptr 4 0)))]
def MZ (a:Option Addr):List (Option SV):=aC 82 0 [(6,.o (.a (bool1 true)))]
section
variable (S:List B32) (F:Keys) (l:List Cert) (q:Nat) (ty:TypeId)
def mem (r:Keys):List Blk:=[⟨false,ty,.prv (bg S)⟩,⟨true,39,.grv 130 (aJ l) q none⟩,⟨true,28,.lit F.row⟩,⟨true,28,.grv 65 (kvals (kl l F q)) (q+1) none⟩,⟨true,28,.lit r.row⟩]
theorem ids0 (ep:Int) (a:Option Addr) (r:Keys):oI (M0 q ep a) (mem S F l q ty r):=by delta oI;kernel_rfl
theorem ids1 (ep:Int) (a:Option Addr) (j:Int) (r:Keys):oI (M1 q ep a j) (mem S F l q ty r):=by delta oI;kernel_rfl
theorem idsD (ep:Int) (a:Option Addr) (r:Keys):oI (MD q ep a) (mem S F l q ty r):=by delta oI;kernel_rfl
theorem idsZ (a:Option Addr) (r:Keys):oI (MZ a) (mem S F l q ty r):=by delta oI;kernel_rfl
end
section
variable (C:B32→Keys→Int→Cert) (hC:C=aW) (V:Keys→Cert→Int) (hV:V=ccV) (S:List B32) (F:Keys) (l:List Cert)
theorem s0 (q n c:Nat) (ty:TypeId) (ep:Int) (a:Option Addr) (e:Int):oN [0,1,2,4,5] (Γ C hC V hV S F l q) 100 (cpre 6 body) (aB fn [.o (.a (.sld 0 0 0 n c)),.o (.a (.v (.slice a 0 0))),.o (.a (int1 .u64 ep))]) [⟨false,ty,.prv (bg S)⟩] [(35,[.n e]),(36,[.b false]),(41,[.ds (aK.enc F)]),(43,[.b false])] .normal (M0 q ep a) (mem S F l q ty F) [0+0+n*32≤(bg S).length,n≤c,(((bg S).drop (0+0)).take (n*32))=bg S,S.length=n,n≤9223372036854775807,∀i,i<n→BOk (S.getD i aA),F=aQ (S.getD 0 aA) 0,BOk aA,q=mkN n,0<q,l=mkL C S [] q,0+0+q*130≤(aJ l).length,q≤q,(((aJ l).drop (0+0)).take (q*130)).length=q*130,0<q,q≤1000000,0+0+q*130≤(((aJ l).drop (0+0)).take (q*130)).length,q≤q,(((((aJ l).drop (0+0)).take (q*130)).drop (0+0)).take (q*130))=aJ l,l.length=q,q≤1000000,∀i,i<q→COk (l.getD i zc),errN V l F q=0,0<q,IntKind.i64.wrap ((q:Int)+1)=e,(!(((q+1:Nat):Int)==e))=false,(0:Int)≤0,(0:Int)<((q+1:Nat):Int),(0+offI 0 0 65)+65≤(kvals (kl l F q)).length,SV.o (.g (bF (kvals (kl l F q)) (0+offI 0 0 65) 65))=aK.enc F,FlatEq Tryz.prog 28 (.u64::List.replicate 64 .u8),(!(sameK F.to))=false]:=by delta oN;kernel_rfl
theorem a1 (q:Nat) (ty:TypeId) (ep:Int) (a:Option Addr) (r:Keys) (g:Nat→SV):oX (Γ C hC V hV S F l q) 100 A1 (fill g 0 (M0 q ep a )) (mem S F l q ty r) [] .normal (M1 q ep a 0) (mem S F l q ty r) []:=by delta oX;kernel_rfl
theorem hit (q n:Nat) (ty:TypeId) (ep:Int) (a:Option Addr) (j j' y:Int) (x r:Keys) (g:Nat→SV):oX (Γ C hC V hV S F l q) 100 L (fill g 0 (M1 q ep a j)) (mem S F l q ty r) [(49,[.b true]),(53,[.n j']),(55,[.ds (aK.enc x)]),(60,[.ds (aK.enc x)]),(61,[.b false]),(66,[.ds (.o (.a (int1 .u64 y)))]),(68,[.b true]),(73,[.ds (aK.enc x)]),(74,[.n j'])] .normal (M1 q ep a j') (mem S F l q ty x) [decide (j<q)=true,IntKind.i64.wrap (j+1)=j',0≤j',j'<((q+1:Nat):Int),(0+offI 0 j' 65)+65≤(kvals (kl l F q)).length,SV.o (.g (bF (kvals (kl l F q)) (0+offI 0 j' 65) 65))=aK.enc x,(0:Int)≤j,(j:Int)<q,(0+offI 0 j 130)+65≤(aJ l).length,SV.o (.g (bF (aJ l) (0+offI 0 j 130) 65))=aK.enc x,FlatEq Tryz.prog 28 (.u64::List.replicate 64 .u8),(!(sameK x.to))=false,(0:Int)≤j,(j:Int)<q,(0+offI 0 j 130+65)<(aJ l).length,SV.o (.a (.v ((aJ l).getD (0+offI 0 j 130+65) undef)))= .o (.a (int1 .u64 y)),decide (y≤ep)=true,(0:Int)≤j,(j:Int)<q,(0+offI 0 j 130)+65≤(aJ l).length,SV.o (.g (bF (aJ l) (0+offI 0 j 130) 65))=aK.enc x,IntKind.i64.wrap (j+1)=j']:=by delta oX;kernel_rfl
theorem stp (q n:Nat) (ty:TypeId) (ep:Int) (a:Option Addr) (j j' y:Int) (x r:Keys) (g:Nat→SV):oX (Γ C hC V hV S F l q) 100 L (fill g 0 (M1 q ep a j)) (mem S F l q ty r) [(49,[.b true]),(53,[.n j']),(55,[.ds (aK.enc x)]),(60,[.ds (aK.enc x)]),(61,[.b false]),(66,[.ds (.o (.a (int1 .u64 y)))]),(68,[.b false]),(74,[.n j'])] .normal (M1 q ep a j') (mem S F l q ty r) [decide (j<q)=true,IntKind.i64.wrap (j+1)=j',0≤j',j'<((q+1:Nat):Int),(0+offI 0 j' 65)+65≤(kvals (kl l F q)).length,SV.o (.g (bF (kvals (kl l F q)) (0+offI 0 j' 65) 65))=aK.enc x,(0:Int)≤j,(j:Int)<q,(0+offI 0 j 130)+65≤(aJ l).length,SV.o (.g (bF (aJ l) (0+offI 0 j 130) 65))=aK.enc x,FlatEq Tryz.prog 28 (.u64::List.replicate 64 .u8),(!(sameK x.to))=false,(0:Int)≤j,(j:Int)<q,(0+offI 0 j 130+65)<(aJ l).length,SV.o (.a (.v ((aJ l).getD (0+offI 0 j 130+65) undef)))= .o (.a (int1 .u64 y)),decide (y≤ep)=false,IntKind.i64.wrap (j+1)=j']:=by delta oX;kernel_rfl
theorem out (q:Nat) (ty:TypeId) (ep:Int) (a:Option Addr) (j:Int) (r:Keys) (g:Nat→SV):oX (Γ C hC V hV S F l q) 100 L (fill g 0 (M1 q ep a j)) (mem S F l q ty r) [(49,[.b false])] (.exit 0) (MD q ep a) (mem S F l q ty r) [decide (j<q)=false]:=by delta oX;kernel_rfl
theorem fin (q:Nat) (ty:TypeId) (ep:Int) (a:Option Addr) (r:Keys) (g:Nat→SV):oX (Γ C hC V hV S F l q) 100 D (fill g 0 (MD q ep a )) (mem S F l q ty r) [(79,[.s (aK.enc r)]),(81,[.b true])] .ret (MZ a) (mem S F l q ty r) [0+0+q*130≤(aJ l).length,q≤q,(((aJ l).drop (0+0)).take (q*130)).length=q*130,0<q,q≤1000000,0+0+q*130≤(((aJ l).drop (0+0)).take (q*130)).length,q≤q,(((((aJ l).drop (0+0)).take (q*130)).drop (0+0)).take (q*130))=aJ l,l.length=q,q<9223372036854775807,aK.enc (atN l ep F q)=aK.enc r,FlatEq Tryz.prog 28 (.u64::List.replicate 64 .u8),sameK r.to=true]:=by delta oX;kernel_rfl
end
theorem zr (S:List B32) (F:Keys) (l:List Cert) (q:Nat) (ty:TypeId) (a:Option Addr) (r:Keys) (g:Nat→SV):eRes tys (fill g 0 (MZ a )) (fun q'=>(mem S F l q ty r)[q']?) fn.results.toList=some [.a (bool1 true)]:=by kernel_rfl
theorem run (C:B32→Keys→Int→Cert) (hC:C=aW) (V:Keys→Cert→Int) (hV:V=ccV) (S:List B32) (F:Keys) (l:List Cert) (q n c:Nat) (ty:TypeId) (ep:Int) (a:Option Addr) (hn:S.length=n) (hc:n≤c) (hm:n≤9223372036854775807) (hS:∀i,i<n→BOk (S.getD i aA)) (hz:BOk aA) (hF:F=aQ (S.getD 0 aA) 0) (hq:q=mkN n) (h0:0<q) (hl:l=mkL C S [] q) (hx:∀i,i<q→COk (l.getD i zc)) (hv:errN V l F q=0):
  aD Tryz.prog G3 1 body (aB fn [.o (.a (.sld 0 0 0 n c)),.o (.a (.v (.slice a 0 0))),.o (.a (int1 .u64 ep))]) [⟨false,ty,.prv (bg S)⟩] (aF tys fn (aX (bE.enc true) .none)):=by
 have h5:q≤5:=by rw[hq];unfold mkN;omega
 have hlen:l.length=q:=by rw[hl,mkL_len]
 have hcl:(aJ l).length=q*130:=by rw[←hlen];exact flat_len Cert.vals_len l
 have hsl:(bg S).length=n*32:=by rw[←hn];exact flat_len b32v_len S
 have hw:=tk_all (aJ l) hcl
 have hkl:=kvals_len l F q
 have ld:∀i:Nat,i≤q→SV.o (.g (bF (kvals (kl l F q)) (0+offI 0 (i:Int) 65) 65))=aK.enc (keyN l F i):=fun i h=>by
  rw[offs,ld_keys _ (by rw[kl_len];omega),kl_get l F _ _ h]
 have lb:∀i:Nat,i≤q→0+offI 0 (i:Int) 65+65≤(kvals (kl l F q)).length:=fun i h=>by
  have:=Nat.mul_le_mul_right 65 (show i+1≤q+1 by omega)
  rw[offs,hkl];omega
 have cp:0+0+q*130≤(aJ l).length:=by rw[hcl];omega
 have hw2:((((aJ l).drop (0+0)).take (q*130)).drop (0+0)).take (q*130)=aJ l:=by rw[hw,hw]
 have hwl:(((aJ l).drop (0+0)).take (q*130)).length=q*130:=by rw[hw,hcl]
 refine Runs.of_outNP ah mixed 6 _ (s0 C hC V hV S F l q n c ty ep a ((q+1:Nat):Int)) ⟨by omega,hc,tk_all _ hsl,hn,hm,hS,hF,hz,hq,h0,hl,cp,Nat.le_refl _,hwl,h0,by omega,by rw[hw];exact cp,Nat.le_refl _,hw2,hlen,by omega,hx,hv,h0,by rw[IntKind.wrap_i64];omega,by simp,by omega,by omega,lb 0 (by omega),ld 0 (by omega),dB,by rw[bY];rfl,trivial⟩ (ids0 S F l q ty ep a _) rfl fun g=> ?_
 rw[suf_eq]
 refine Runs.seq (Runs.seq (Runs.aj ah mixed (a1 C hC V hV S F l q ty ep a _ g) trivial (ids1 S F l q ty ep a 0 _) rfl fun g=> ?_))
 refine Runs.block ?_
 refine Runs.loopX (fun(i:Nat)=>M1 q ep a (i:Int)) (fun i=>mem S F l q ty (atN l ep F i)) (fun i=>i≤q) (fun i=>q-i) ?_ 0 (Nat.zero_le _) g
 rintro i g hi
 by_cases hin:i=q
 ·rw[hin]
  refine Runs.aj ah mixed (out C hC V hV S F l q ty ep a _ _ g) ⟨decide_eq_false (by omega),trivial⟩ (idsD S F l q ty ep a _) rfl fun g=> ?_
  show aD _ _ _ _ _ _ _
  exact Runs.aj ah mixed (fin C hC V hV S F l q ty ep a (atN l ep F q) g) ⟨cp,Nat.le_refl _,hwl,h0,by omega,by rw[hw];exact cp,Nat.le_refl _,hw2,hlen,by omega,rfl,dB,bY _,trivial⟩ (idsZ S F l q ty a _) rfl fun g=>aF.ret (zr S F l q ty a _ g) rfl
 ·have hiq:i<q:=by omega
  have hb:i*130+130≤q*130:=by have:=Nat.mul_le_mul_right 130 (show i+1≤q by omega);omega
  have o1:0+offI 0 (i:Int) 130+65≤(aJ l).length:=by rw[offs,hcl];omega
  have o2:0+offI 0 (i:Int) 130+65<(aJ l).length:=by rw[offs,hcl];omega
  have l1:SV.o (.g (bF (aJ l) (0+offI 0 (i:Int) 130) 65))=aK.enc (l.getD i zc).k:=by rw[offs];exact ld_ckeys l (by omega)
  have l2:SV.o (.a (.v ((aJ l).getD (0+offI 0 (i:Int) 130+65) undef)))= .o (.a (int1 .u64 (l.getD i zc).ep)):=by rw[offs];exact ld_ep l (by omega)
  have hw1:IntKind.i64.wrap ((i:Int)+1)=((i+1:Nat):Int):=by rw[IntKind.wrap_i64];omega
  cases hd:decide ((l.getD i zc).ep≤ep) with
  | false=>
   refine Runs.aj ah mixed (stp C hC V hV S F l q n ty ep a (i:Int) ((i+1:Nat):Int) (l.getD i zc).ep (l.getD i zc).k (atN l ep F i) g) ⟨decide_eq_true (by omega),hw1,by omega,by omega,lb (i+1) (by omega),ld (i+1) (by omega),by omega,by omega,o1,l1,dB,by rw[bY];rfl,by omega,by omega,o2,l2,hd,hw1,trivial⟩ (ids1 S F l q ty ep a _ _) rfl fun g=> ?_
   exact⟨i+1,g,rfl,by rw[atN,hd,cond_false],by omega,by omega⟩
  | true=>
   refine Runs.aj ah mixed (hit C hC V hV S F l q n ty ep a (i:Int) ((i+1:Nat):Int) (l.getD i zc).ep (l.getD i zc).k (atN l ep F i) g) ⟨decide_eq_true (by omega),hw1,by omega,by omega,lb (i+1) (by omega),ld (i+1) (by omega),by omega,by omega,o1,l1,dB,by rw[bY];rfl,by omega,by omega,o2,l2,hd,by omega,by omega,o1,l1,hw1,trivial⟩ (ids1 S F l q ty ep a _ _) rfl fun g=> ?_
   exact⟨i+1,g,rfl,by rw[atN,hd,cond_true],by omega,by omega⟩
end wv
noncomputable def ΓZ (C:B32→Keys→Int→Cert) (hC:C=aW) (V:Keys→Cert→Int) (hV:V=ccV) (S:List B32) (F:Keys):Cons Tryz.prog G3:=[kawake_con,mad.conZ C hC S F,kcp.conZ,kch.conZ V hV [],kat.con []]
namespace zww
def M0 (ep:Int):List (Option SV):=aC 82 0 [(2,.o (.a (int1 .u64 ep))),(7,.o (.a (.ptr 2 0))),(8,.o (.a (.v (.slice none 0 0)))),(9,.o (.a (.slc 4 0 1 1))),(11,.o (.a (.ptr 5 0)))]
def M1 (ep:Int):List (Option SV):=aC 82 0 [(2,.o (.a (int1 .u64 ep))),(7,.o (.a (.ptr 2 0))),(8,.o (.a (.v (.slice none 0 0)))),(9,.o (.a (.slc 4 0 1 1))),(11,.o (.a (.ptr 5 0))),(47,.o (.a (.v (.int .i64 0)))),(48,.o (.a (.v (.int .i64 0))))]
def MD (ep:Int):List (Option SV):=aC 82 0 [(2,.o (.a (int1 .u64 ep))),(7,.o (.a (.ptr 2 0))),(8,.o (.a (.v (.slice none 0 0)))),(11,.o (.a (.ptr 5 0)))]
def MZ:List (Option SV):=aC 82 0 [(6,.o (.a (bool1 true)))]
section
variable (S:List B32) (F:Keys)
def mem (ty:TypeId) (E:List Int) (ty':TypeId):List Blk:=[⟨false,ty,.prv (bg S)⟩,⟨false,ty',.pre .u8 E⟩,⟨true,28,.lit F.row⟩,⟨true,39,.lit []⟩,⟨true,28,.lit F.row⟩,⟨true,28,.lit F.row⟩]
theorem idsM0 (ep:Int) (ty:TypeId) (E:List Int) (ty':TypeId):oI (M0 ep) (mem S F ty E ty'):=by delta oI;kernel_rfl
theorem idsM1 (ep:Int) (ty:TypeId) (E:List Int) (ty':TypeId):oI (M1 ep) (mem S F ty E ty'):=by delta oI;kernel_rfl
theorem idsMD (ep:Int) (ty:TypeId) (E:List Int) (ty':TypeId):oI (MD ep) (mem S F ty E ty'):=by delta oI;kernel_rfl
theorem idsMZ (ty:TypeId) (E:List Int) (ty':TypeId):oI (MZ) (mem S F ty E ty'):=by delta oI;kernel_rfl
end
section
variable (C:B32→Keys→Int→Cert) (hC:C=aW) (V:Keys→Cert→Int) (hV:V=ccV) (S:List B32) (F:Keys) (ep:Int)
theorem s0 (n c:Nat) (ty:TypeId) (E:List Int) (m d:Nat) (ty':TypeId) (e:Int):oX (ΓZ C hC V hV S F) 100 (cpre 6 body) (aB fn [.o (.a (.sld 0 0 0 n c)),.o (.a (.sld 1 0 0 m d)),.o (.a (int1 .u64 ep))]) [⟨false,ty,.prv (bg S)⟩,⟨false,ty',.pre .u8 E⟩] [(35,[.n e]),(36,[.b false]),(43,[.b false])] .normal (M0 ep) (mem S F ty E ty') [0+0+n*32≤(bg S).length,n≤c,0+0+m≤E.length,m≤d,(((bg S).drop (0+0)).take (n*32))=bg S,S.length=n,n≤9223372036854775807,∀i,i<n→BOk (S.getD i aA),F=aQ (S.getD 0 aA) 0,BOk aA,mkN n=0,0+0+0*130≤([]:List Value).length,0≤0,((([]:List Value).drop (0+0)).take (0*130))=aJ [],([]:List Cert).length=0,0≤1000000,∀i,i<0→COk (([]:List Cert).getD i zc),0=0,IntKind.i64.wrap (0+1)=e,(!((1:Int)==e))=false,FlatEq Tryz.prog 28 (.u64::List.replicate 64 .u8),(!(sameK F.to))=false]:=by delta oX;kernel_rfl
theorem a1 (ty:TypeId) (E:List Int) (ty':TypeId) (g:Nat→SV):oX (ΓZ C hC V hV S F) 100 A1 (fill g 0 (M0 ep )) (mem S F ty E ty') [] .normal (M1 ep) (mem S F ty E ty') []:=by delta oX;kernel_rfl
theorem out (ty:TypeId) (E:List Int) (ty':TypeId) (g:Nat→SV):oX (ΓZ C hC V hV S F) 100 L (fill g 0 (M1 ep )) (mem S F ty E ty') [(49,[.b false])] (.exit 0) (MD ep) (mem S F ty E ty') [decide ((0:Int)<0)=false]:=by delta oX;kernel_rfl
theorem fin (ty:TypeId) (E:List Int) (ty':TypeId) (g:Nat→SV):oX (ΓZ C hC V hV S F) 100 D (fill g 0 (MD ep )) (mem S F ty E ty') [(79,[.s (aK.enc F)]),(81,[.b true])] .ret (MZ) (mem S F ty E ty') [0+0+0*130≤([]:List Value).length,0≤0,((([]:List Value).drop (0+0)).take (0*130))=aJ [],([]:List Cert).length=0,0<9223372036854775807,aK.enc (atN [] ep F 0)=aK.enc F,FlatEq Tryz.prog 28 (.u64::List.replicate 64 .u8),sameK F.to=true]:=by delta oX;kernel_rfl
end
theorem zr (S:List B32) (F:Keys) (ty:TypeId) (E:List Int) (ty':TypeId) (g:Nat→SV):eRes tys (fill g 0 (MZ )) (fun q'=>(mem S F ty E ty' )[q']?) fn.results.toList=some [.a (bool1 true)]:=by kernel_rfl
theorem run (C:B32→Keys→Int→Cert) (hC:C=aW) (V:Keys→Cert→Int) (hV:V=ccV) (S:List B32) (F:Keys) (ep:Int) (n c:Nat) (ty:TypeId) (E:List Int) (m d:Nat) (ty':TypeId) (hn:S.length=n) (hc:n≤c) (hm:n≤9223372036854775807) (hS:∀i,i<n→BOk (S.getD i aA)) (hq:mkN n=0) (hF:F=aQ (S.getD 0 aA) 0) (hE:E.length=m) (hd:m≤d) (hz:BOk aA):aD Tryz.prog G3 2 body (aB fn [.o (.a (.sld 0 0 0 n c)),.o (.a (.sld 1 0 0 m d)),.o (.a (int1 .u64 ep))]) [⟨false,ty,.prv (bg S)⟩,⟨false,ty',.pre .u8 E⟩] (aF tys fn (aX (bE.enc true) .none)):=by
 refine Runs.bA ah mixed 6 (s0 C hC V hV S F ep n c ty E m d ty' 1) ⟨by rw[show(bg S).length=n*32 from by rw[←hn];exact flat_len b32v_len S];omega,hc,by omega,hd,tk_all _ (by rw[←hn];exact flat_len b32v_len S),hn,hm,hS,hF,hz,hq,Nat.le_refl _,Nat.le_refl _,rfl,rfl,by omega,fun _ h=>absurd h (Nat.not_lt_zero _),rfl,by rw[IntKind.wrap_i64];omega,by decide,dB,by rw[bY];rfl,trivial⟩ (idsM0 S F ep ty E ty' ) rfl fun g=> ?_
 rw[suf_eq]
 refine Runs.seq (Runs.seq (Runs.aj ah mixed (a1 C hC V hV S F ep ty E ty' g) trivial (idsM1 S F ep ty E ty' ) rfl fun g=> ?_))
 refine Runs.block ?_
 refine Runs.loopX (fun(_:Unit)=>M1 ep ) (fun _=>mem S F ty E ty' ) (fun _=>True) (fun _=>0) ?_ () trivial g
 rintro _ g _
 refine Runs.aj ah mixed (out C hC V hV S F ep ty E ty' g) ⟨by decide,trivial⟩ (idsMD S F ep ty E ty' ) rfl fun g=> ?_
 show aD _ _ _ _ _ _ _
 exact Runs.aj ah mixed (fin C hC V hV S F ep ty E ty' g) ⟨Nat.le_refl _,Nat.le_refl _,rfl,rfl,by omega,rfl,dB,bY _,trivial⟩ (idsMZ S F ty E ty' ) rfl fun g=>aF.ret (zr S F ty E ty' g) rfl
end zww
namespace zwv
def M0 (ep:Int) (a:Option Addr):List (Option SV):=aC 82 0 [(2,.o (.a (int1 .u64 ep))),(7,.o (.a (.ptr 1 0))),(8,.o (.a (.v (.slice none 0 0)))),(9,.o (.a (.slc 3 0 1 1))),(11,.o (.a (.ptr 4 0)))]
def M1 (ep:Int) (a:Option Addr):List (Option SV):=aC 82 0 [(2,.o (.a (int1 .u64 ep))),(7,.o (.a (.ptr 1 0))),(8,.o (.a (.v (.slice none 0 0)))),(9,.o (.a (.slc 3 0 1 1))),(11,.o (.a (.ptr 4 0))),(47,.o (.a (.v (.int .i64 0)))),(48,.o (.a (.v (.int .i64 0))))]
def MD (ep:Int) (a:Option Addr):List (Option SV):=aC 82 0 [(2,.o (.a (int1 .u64 ep))),(7,.o (.a (.ptr 1 0))),(8,.o (.a (.v (.slice none 0 0)))),(11,.o (.a (.ptr 4 0)))]
def MZ (a:Option Addr):List (Option SV):=aC 82 0 [(6,.o (.a (bool1 true)))]
section
variable (S:List B32) (F:Keys)
def mem (ty:TypeId):List Blk:=[⟨false,ty,.prv (bg S)⟩,⟨true,28,.lit F.row⟩,⟨true,39,.lit []⟩,⟨true,28,.lit F.row⟩,⟨true,28,.lit F.row⟩]
theorem idsM0 (ep:Int) (ty:TypeId) (a:Option Addr):oI (M0 ep a) (mem S F ty):=by delta oI;kernel_rfl
theorem idsM1 (ep:Int) (ty:TypeId) (a:Option Addr):oI (M1 ep a) (mem S F ty):=by delta oI;kernel_rfl
theorem idsMD (ep:Int) (ty:TypeId) (a:Option Addr):oI (MD ep a) (mem S F ty):=by delta oI;kernel_rfl
theorem idsMZ (ty:TypeId) (a:Option Addr):oI (MZ a) (mem S F ty):=by delta oI;kernel_rfl
end
section
variable (C:B32→Keys→Int→Cert) (hC:C=aW) (V:Keys→Cert→Int) (hV:V=ccV) (S:List B32) (F:Keys) (ep:Int)
theorem s0 (n c:Nat) (ty:TypeId) (a:Option Addr) (e:Int):oX (ΓZ C hC V hV S F) 100 (cpre 6 body) (aB fn [.o (.a (.sld 0 0 0 n c)),.o (.a (.v (.slice a 0 0))),.o (.a (int1 .u64 ep))]) [⟨false,ty,.prv (bg S)⟩] [(35,[.n e]),(36,[.b false]),(43,[.b false])] .normal (M0 ep a) (mem S F ty) [0+0+n*32≤(bg S).length,n≤c,(((bg S).drop (0+0)).take (n*32))=bg S,S.length=n,n≤9223372036854775807,∀i,i<n→BOk (S.getD i aA),F=aQ (S.getD 0 aA) 0,BOk aA,mkN n=0,0+0+0*130≤([]:List Value).length,0≤0,((([]:List Value).drop (0+0)).take (0*130))=aJ [],([]:List Cert).length=0,0≤1000000,∀i,i<0→COk (([]:List Cert).getD i zc),0=0,IntKind.i64.wrap (0+1)=e,(!((1:Int)==e))=false,FlatEq Tryz.prog 28 (.u64::List.replicate 64 .u8),(!(sameK F.to))=false]:=by delta oX;kernel_rfl
theorem a1 (ty:TypeId) (a:Option Addr) (g:Nat→SV):oX (ΓZ C hC V hV S F) 100 A1 (fill g 0 (M0 ep a )) (mem S F ty) [] .normal (M1 ep a) (mem S F ty) []:=by delta oX;kernel_rfl
theorem out (ty:TypeId) (a:Option Addr) (g:Nat→SV):oX (ΓZ C hC V hV S F) 100 L (fill g 0 (M1 ep a )) (mem S F ty) [(49,[.b false])] (.exit 0) (MD ep a) (mem S F ty) [decide ((0:Int)<0)=false]:=by delta oX;kernel_rfl
theorem fin (ty:TypeId) (a:Option Addr) (g:Nat→SV):oX (ΓZ C hC V hV S F) 100 D (fill g 0 (MD ep a )) (mem S F ty) [(79,[.s (aK.enc F)]),(81,[.b true])] .ret (MZ a) (mem S F ty) [0+0+0*130≤([]:List Value).length,0≤0,((([]:List Value).drop (0+0)).take (0*130))=aJ [],([]:List Cert).length=0,0<9223372036854775807,aK.enc (atN [] ep F 0)=aK.enc F,FlatEq Tryz.prog 28 (.u64::List.replicate 64 .u8),sameK F.to=true]:=by delta oX;kernel_rfl
end
theorem zr (S:List B32) (F:Keys) (ty:TypeId) (a:Option Addr) (g:Nat→SV):eRes tys (fill g 0 (MZ a )) (fun q'=>(mem S F ty )[q']?) fn.results.toList=some [.a (bool1 true)]:=by kernel_rfl
theorem run (C:B32→Keys→Int→Cert) (hC:C=aW) (V:Keys→Cert→Int) (hV:V=ccV) (S:List B32) (F:Keys) (ep:Int) (n c:Nat) (ty:TypeId) (a:Option Addr) (hn:S.length=n) (hc:n≤c) (hm:n≤9223372036854775807) (hS:∀i,i<n→BOk (S.getD i aA)) (hq:mkN n=0) (hF:F=aQ (S.getD 0 aA) 0) (hz:BOk aA):aD Tryz.prog G3 1 body (aB fn [.o (.a (.sld 0 0 0 n c)),.o (.a (.v (.slice a 0 0))),.o (.a (int1 .u64 ep))]) [⟨false,ty,.prv (bg S)⟩] (aF tys fn (aX (bE.enc true) .none)):=by
 refine Runs.bA ah mixed 6 (s0 C hC V hV S F ep n c ty a 1) ⟨by rw[show(bg S).length=n*32 from by rw[←hn];exact flat_len b32v_len S];omega,hc,tk_all _ (by rw[←hn];exact flat_len b32v_len S),hn,hm,hS,hF,hz,hq,Nat.le_refl _,Nat.le_refl _,rfl,rfl,by omega,fun _ h=>absurd h (Nat.not_lt_zero _),rfl,by rw[IntKind.wrap_i64];omega,by decide,dB,by rw[bY];rfl,trivial⟩ (idsM0 S F ep ty a ) rfl fun g=> ?_
 rw[suf_eq]
 refine Runs.seq (Runs.seq (Runs.aj ah mixed (a1 C hC V hV S F ep ty a g) trivial (idsM1 S F ep ty a ) rfl fun g=> ?_))
 refine Runs.block ?_
 refine Runs.loopX (fun(_:Unit)=>M1 ep a ) (fun _=>mem S F ty ) (fun _=>True) (fun _=>0) ?_ () trivial g
 rintro _ g _
 refine Runs.aj ah mixed (out C hC V hV S F ep ty a g) ⟨by decide,trivial⟩ (idsMD S F ep ty a ) rfl fun g=> ?_
 show aD _ _ _ _ _ _ _
 exact Runs.aj ah mixed (fin C hC V hV S F ep ty a g) ⟨Nat.le_refl _,Nat.le_refl _,rfl,rfl,by omega,rfl,dB,bY _,trivial⟩ (idsMZ S F ty a ) rfl fun g=>aF.ret (zr S F ty a g) rfl
end zwv
namespace zvw
def M0 (ep:Int):List (Option SV):=aC 82 0 [(2,.o (.a (int1 .u64 ep))),(7,.o (.a (.ptr 1 0))),(8,.o (.a (.v (.slice none 0 0)))),(9,.o (.a (.slc 3 0 1 1))),(11,.o (.a (.ptr 4 0)))]
def M1 (ep:Int):List (Option SV):=aC 82 0 [(2,.o (.a (int1 .u64 ep))),(7,.o (.a (.ptr 1 0))),(8,.o (.a (.v (.slice none 0 0)))),(9,.o (.a (.slc 3 0 1 1))),(11,.o (.a (.ptr 4 0))),(47,.o (.a (.v (.int .i64 0)))),(48,.o (.a (.v (.int .i64 0))))]
def MD (ep:Int):List (Option SV):=aC 82 0 [(2,.o (.a (int1 .u64 ep))),(7,.o (.a (.ptr 1 0))),(8,.o (.a (.v (.slice none 0 0)))),(11,.o (.a (.ptr 4 0)))]
def MZ:List (Option SV):=aC 82 0 [(6,.o (.a (bool1 true)))]
def mem (F:Keys) (E:List Int) (ty':TypeId):List Blk:=[⟨false,ty',.pre .u8 E⟩,⟨true,28,.lit F.row⟩,⟨true,39,.lit []⟩,⟨true,28,.lit F.row⟩,⟨true,28,.lit F.row⟩]
section
variable (F:Keys) (ep:Int) (E:List Int) (ty':TypeId)
theorem idsM0:oI (M0 ep) (mem F E ty'):=by delta oI;kernel_rfl
theorem idsM1:oI (M1 ep) (mem F E ty'):=by delta oI;kernel_rfl
theorem idsMD:oI (MD ep) (mem F E ty'):=by delta oI;kernel_rfl
end
theorem idsMZ (F:Keys) (E:List Int) (ty':TypeId):oI (MZ) (mem F E ty'):=by delta oI;kernel_rfl
section
variable (C:B32→Keys→Int→Cert) (hC:C=aW) (V:Keys→Cert→Int) (hV:V=ccV) (S:List B32) (F:Keys) (ep:Int)
theorem s0 (b:Option Addr) (E:List Int) (m d:Nat) (ty':TypeId) (e:Int):oX (ΓZ C hC V hV S F) 100 (cpre 6 body) (aB fn [.o (.a (.v (.slice b 0 0))),.o (.a (.sld 0 0 0 m d)),.o (.a (int1 .u64 ep))]) [⟨false,ty',.pre .u8 E⟩] [(35,[.n e]),(36,[.b false]),(43,[.b false])] .normal (M0 ep) (mem F E ty') [0+0+m≤E.length,m≤d,F=aQ aA 0,BOk aA,0+0+0*130≤([]:List Value).length,0≤0,((([]:List Value).drop (0+0)).take (0*130))=aJ [],([]:List Cert).length=0,0≤1000000,∀i,i<0→COk (([]:List Cert).getD i zc),0=0,IntKind.i64.wrap (0+1)=e,(!((1:Int)==e))=false,FlatEq Tryz.prog 28 (.u64::List.replicate 64 .u8),(!(sameK F.to))=false]:=by delta oX;kernel_rfl
theorem a1 (E:List Int) (ty':TypeId) (g:Nat→SV):oX (ΓZ C hC V hV S F) 100 A1 (fill g 0 (M0 ep )) (mem F E ty') [] .normal (M1 ep) (mem F E ty') []:=by delta oX;kernel_rfl
theorem out (b:Option Addr) (E:List Int) (ty':TypeId) (g:Nat→SV):oX (ΓZ C hC V hV S F) 100 L (fill g 0 (M1 ep )) (mem F E ty') [(49,[.b false])] (.exit 0) (MD ep) (mem F E ty') [decide ((0:Int)<0)=false]:=by delta oX;kernel_rfl
theorem fin (b:Option Addr) (E:List Int) (ty':TypeId) (g:Nat→SV):oX (ΓZ C hC V hV S F) 100 D (fill g 0 (MD ep )) (mem F E ty') [(79,[.s (aK.enc F)]),(81,[.b true])] .ret (MZ) (mem F E ty') [0+0+0*130≤([]:List Value).length,0≤0,((([]:List Value).drop (0+0)).take (0*130))=aJ [],([]:List Cert).length=0,0<9223372036854775807,aK.enc (atN [] ep F 0)=aK.enc F,FlatEq Tryz.prog 28 (.u64::List.replicate 64 .u8),sameK F.to=true]:=by delta oX;kernel_rfl
end
theorem zr (F:Keys) (E:List Int) (ty':TypeId) (g:Nat→SV):eRes tys (fill g 0 (MZ )) (fun q'=>(mem F E ty' )[q']?) fn.results.toList=some [.a (bool1 true)]:=by kernel_rfl
theorem run (C:B32→Keys→Int→Cert) (hC:C=aW) (V:Keys→Cert→Int) (hV:V=ccV) (S:List B32) (F:Keys) (ep:Int) (b:Option Addr) (E:List Int) (m d:Nat) (ty':TypeId) (hF:F=aQ aA 0) (hE:E.length=m) (hd:m≤d) (hz:BOk aA):aD Tryz.prog G3 1 body (aB fn [.o (.a (.v (.slice b 0 0))),.o (.a (.sld 0 0 0 m d)),.o (.a (int1 .u64 ep))]) [⟨false,ty',.pre .u8 E⟩] (aF tys fn (aX (bE.enc true) .none)):=by
 refine Runs.bA ah mixed 6 (s0 C hC V hV S F ep b E m d ty' 1) ⟨by omega,hd,hF,hz,Nat.le_refl _,Nat.le_refl _,rfl,rfl,by omega,fun _ h=>absurd h (Nat.not_lt_zero _),rfl,by rw[IntKind.wrap_i64];omega,by decide,dB,by rw[bY];rfl,trivial⟩ (idsM0 F ep E ty' ) rfl fun g=> ?_
 rw[suf_eq]
 refine Runs.seq (Runs.seq (Runs.aj ah mixed (a1 C hC V hV S F ep E ty' g) trivial (idsM1 F ep E ty' ) rfl fun g=> ?_))
 refine Runs.block ?_
 refine Runs.loopX (fun(_:Unit)=>M1 ep ) (fun _=>mem F E ty' ) (fun _=>True) (fun _=>0) ?_ () trivial g
 rintro _ g _
 refine Runs.aj ah mixed (out C hC V hV S F ep b E ty' g) ⟨by decide,trivial⟩ (idsMD F ep E ty' ) rfl fun g=> ?_
 show aD _ _ _ _ _ _ _
 exact Runs.aj ah mixed (fin C hC V hV S F ep b E ty' g) ⟨Nat.le_refl _,Nat.le_refl _,rfl,rfl,by omega,rfl,dB,bY _,trivial⟩ (idsMZ F E ty' ) rfl fun g=>aF.ret (zr F E ty' g) rfl
end zvw
namespace zvv
def M0 (ep:Int) (a:Option Addr):List (Option SV):=aC 82 0 [(2,.o (.a (int1 .u64 ep))),(7,.o (.a (.ptr 0 0))),(8,.o (.a (.v (.slice none 0 0)))),(9,.o (.a (.slc 2 0 1 1))),(11,.o (.a (.ptr 3 0)))]
def M1 (ep:Int) (a:Option Addr):List (Option SV):=aC 82 0 [(2,.o (.a (int1 .u64 ep))),(7,.o (.a (.ptr 0 0))),(8,.o (.a (.v (.slice none 0 0)))),(9,.o (.a (.slc 2 0 1 1))),(11,.o (.a (.ptr 3 0))),(47,.o (.a (.v (.int .i64 0)))),(48,.o (.a (.v (.int .i64 0))))]
def MD (ep:Int) (a:Option Addr):List (Option SV):=aC 82 0 [(2,.o (.a (int1 .u64 ep))),(7,.o (.a (.ptr 0 0))),(8,.o (.a (.v (.slice none 0 0)))),(11,.o (.a (.ptr 3 0)))]
def MZ (a:Option Addr):List (Option SV):=aC 82 0 [(6,.o (.a (bool1 true)))]
def mem (F:Keys):List Blk:=[⟨true,28,.lit F.row⟩,⟨true,39,.lit []⟩,⟨true,28,.lit F.row⟩,⟨true,28,.lit F.row⟩]
theorem idsM0 (F:Keys) (ep:Int) (a:Option Addr):oI (M0 ep a) (mem F):=by delta oI;kernel_rfl
theorem idsM1 (F:Keys) (ep:Int) (a:Option Addr):oI (M1 ep a) (mem F):=by delta oI;kernel_rfl
theorem idsMD (F:Keys) (ep:Int) (a:Option Addr):oI (MD ep a) (mem F):=by delta oI;kernel_rfl
theorem idsMZ (F:Keys) (a:Option Addr):oI (MZ a) (mem F):=by delta oI;kernel_rfl
section
variable (C:B32→Keys→Int→Cert) (hC:C=aW) (V:Keys→Cert→Int) (hV:V=ccV) (S:List B32) (F:Keys) (ep:Int)
theorem s0 (b:Option Addr) (a:Option Addr) (e:Int):oX (ΓZ C hC V hV S F) 100 (cpre 6 body) (aB fn [.o (.a (.v (.slice b 0 0))),.o (.a (.v (.slice a 0 0))),.o (.a (int1 .u64 ep))]) [] [(35,[.n e]),(36,[.b false]),(43,[.b false])] .normal (M0 ep a) (mem F) [F=aQ aA 0,BOk aA,0+0+0*130≤([]:List Value).length,0≤0,((([]:List Value).drop (0+0)).take (0*130))=aJ [],([]:List Cert).length=0,0≤1000000,∀i,i<0→COk (([]:List Cert).getD i zc),0=0,IntKind.i64.wrap (0+1)=e,(!((1:Int)==e))=false,FlatEq Tryz.prog 28 (.u64::List.replicate 64 .u8),(!(sameK F.to))=false]:=by delta oX;kernel_rfl
theorem a1 (a:Option Addr) (g:Nat→SV):oX (ΓZ C hC V hV S F) 100 A1 (fill g 0 (M0 ep a )) (mem F) [] .normal (M1 ep a) (mem F) []:=by delta oX;kernel_rfl
theorem out (b:Option Addr) (a:Option Addr) (g:Nat→SV):oX (ΓZ C hC V hV S F) 100 L (fill g 0 (M1 ep a )) (mem F) [(49,[.b false])] (.exit 0) (MD ep a) (mem F) [decide ((0:Int)<0)=false]:=by delta oX;kernel_rfl
theorem fin (b:Option Addr) (a:Option Addr) (g:Nat→SV):oX (ΓZ C hC V hV S F) 100 D (fill g 0 (MD ep a )) (mem F) [(79,[.s (aK.enc F)]),(81,[.b true])] .ret (MZ a) (mem F) [0+0+0*130≤([]:List Value).length,0≤0,((([]:List Value).drop (0+0)).take (0*130))=aJ [],([]:List Cert).length=0,0<9223372036854775807,aK.enc (atN [] ep F 0)=aK.enc F,FlatEq Tryz.prog 28 (.u64::List.replicate 64 .u8),sameK F.to=true]:=by delta oX;kernel_rfl
end
theorem zr (F:Keys) (a:Option Addr) (g:Nat→SV):eRes tys (fill g 0 (MZ a )) (fun q'=>(mem F )[q']?) fn.results.toList=some [.a (bool1 true)]:=by kernel_rfl
theorem run (C:B32→Keys→Int→Cert) (hC:C=aW) (V:Keys→Cert→Int) (hV:V=ccV) (S:List B32) (F:Keys) (ep:Int) (b:Option Addr) (a:Option Addr) (hF:F=aQ aA 0) (hz:BOk aA):aD Tryz.prog G3 0 body (aB fn [.o (.a (.v (.slice b 0 0))),.o (.a (.v (.slice a 0 0))),.o (.a (int1 .u64 ep))]) [] (aF tys fn (aX (bE.enc true) .none)):=by
 refine Runs.bA ah mixed 6 (s0 C hC V hV S F ep b a 1) ⟨hF,hz,Nat.le_refl _,Nat.le_refl _,rfl,rfl,by omega,fun _ h=>absurd h (Nat.not_lt_zero _),rfl,by rw[IntKind.wrap_i64];omega,by decide,dB,by rw[bY];rfl,trivial⟩ (idsM0 F ep a ) rfl fun g=> ?_
 rw[suf_eq]
 refine Runs.seq (Runs.seq (Runs.aj ah mixed (a1 C hC V hV S F ep a g) trivial (idsM1 F ep a ) rfl fun g=> ?_))
 refine Runs.block ?_
 refine Runs.loopX (fun(_:Unit)=>M1 ep a ) (fun _=>mem F ) (fun _=>True) (fun _=>0) ?_ () trivial g
 rintro _ g _
 refine Runs.aj ah mixed (out C hC V hV S F ep b a g) ⟨by decide,trivial⟩ (idsMD F ep a ) rfl fun g=> ?_
 show aD _ _ _ _ _ _ _
 exact Runs.aj ah mixed (fin C hC V hV S F ep b a g) ⟨Nat.le_refl _,Nat.le_refl _,rfl,rfl,by omega,rfl,dB,bY _,trivial⟩ (idsMZ F a ) rfl fun g=>aF.ret (zr F a g) rfl
end zvv
end lch
end Go.Proofs.YthlmepolmemejaaGreatDoor
