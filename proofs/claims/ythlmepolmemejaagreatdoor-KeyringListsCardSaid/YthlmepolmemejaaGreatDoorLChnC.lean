/- keyring.Chain: walk. -/
import Derived.Test.YthlmepolmemejaaGreatDoorLFo
import Derived.Test.YthlmepolmemejaaGreatDoorLChnB
set_option linter.unusedSimpArgs false
set_option linter.unusedVariables false
namespace Go.Proofs.YthlmepolmemejaaGreatDoor
open Go Go.Eng Go.RowKit
set_option maxRecDepth 100000
def epN (l:List Cert):Nat→Int
 | 0=>0
 | n+1=>(l.getD n zc).ep
def lV (l:List Cert) (k:Keys):Nat→Keys
 | 0=>k
 | n+1=>(l.getD n zc).k
def kl (l:List Cert) (k:Keys):Nat→List Keys
 | 0=>[k]
 | n+1=>kl l k n++[(l.getD n zc).k]
def gT (V:Keys→Cert→Int) (l:List Cert) (k:Keys):Nat→Int
 | 0=>0
 | n+1=>bif gT V l k n==0 then (bif decide ((l.getD n zc).ep≤epN l n) then 1 else V (lV l k n) (l.getD n zc)) else gT V l k n
theorem sZ (l:List Cert) (k:Keys):∀n,(kl l k n).length=n+1
 | 0=>rfl
 | n+1=>by rw[kl,List.length_append,sZ l k n];rfl
theorem kl_get (l:List Cert) (k:Keys):∀n i,i≤n→(kl l k n).getD i zk=lV l k i
 | 0,i,h=>by
         obtain rfl:i=0:=by omega
         rfl
 | n+1,i,h=>by
  rcases Nat.lt_or_ge i (n+1) with h1 | h1
  ·rw[kl,List.getD_eq_getElem?_getD,List.getElem?_append_left (by rw[sZ];exact h1),←List.getD_eq_getElem?_getD,kl_get l k n i (by omega)]
  ·obtain rfl:i=n+1:=by omega
   rw[kl,List.getD_eq_getElem?_getD,List.getElem?_append_right (by rw[sZ];exact Nat.le_refl _),sZ,Nat.sub_self]
   rfl
theorem yT (l:List Keys) (k:Keys):dL (l++[k])=dL l++k.vals:=by simp[dL]
theorem Ag {V:Keys→Cert→Int} {l:List Cert} {k:Keys} {i:Nat} (h:gT V l k i≠0):∀{n},i≤n→gT V l k n=gT V l k i
 | 0,hi=>by
        obtain rfl:i=0:=by omega
        rfl
 | n+1,hi=>by
  rcases Nat.lt_or_ge i (n+1) with h1 | h1
  ·have e:=Ag h (show i≤n by omega)
   have e0:(gT V l k n==0)=false:=by rw[e];simpa using h
   rw[gT,e0,cond_false,e]
  ·obtain rfl:i=n+1:=by omega
   rfl
theorem lT (i s:Nat):0+aP 0 (i:Int) s=i*s:=by
 rw[lN]
 simp
theorem roomK (n:Nat) (h:n≤2000000):Room Tryz.prog 28 n:=by
 have h1:(Tryz.prog.info? 28).map (·.bytes)=some 72:=by kernel_rfl
 cases hq:Tryz.prog.info? 28 with
 | none=>rw[hq] at h1;cases h1
 | some j=>
  rw[hq] at h1
  have:j.bytes=72:=by simpa using h1
  exact⟨j,hq,by rw[this];omega,by omega⟩
def chE (e:Int):SV:= .t [.a (.v (.slice none 0 0)),.a (.v (.int .i64 e))]
def chZ:SV:= .t [.a (.slc 0 0 1 1),.a (.v (.int .i64 0))]
def chP (n:Nat):SV:= .t [.a (.slg 0 (n+1)),.a (.v (.int .i64 0))]
def chQ (V:Keys→Cert→Int) (l:List Cert) (k:Keys) (n:Nat) (r:SV) (m:List Blk):Prop:=
 (gT V l k n≠0∧bA (chE (gT V l k n)) .none r m)∨(gT V l k n=0∧n=0∧bA chZ (.new 28 (.lit k.row)) r m)∨(gT V l k n=0∧0<n∧bA (chP n) (.new 28 (.grv 65 (dL (kl l k n)) (n+1) none)) r m)
theorem errN_next {V:Keys→Cert→Int} {l:List Cert} {k:Keys} {i:Nat} (h:gT V l k i=0):gT V l k (i+1)=bif decide ((l.getD i zc).ep≤epN l i) then 1 else V (lV l k i) (l.getD i zc):=by rw[gT,h];rfl
theorem kl_succ (l:List Cert) (k:Keys) (n:Nat):dL (kl l k (n+1))=dL (kl l k n)++(l.getD n zc).k.vals:=by rw[kl,yT]
theorem uL (l:List Cert) (k:Keys) (n:Nat):(dL (kl l k n)).length=(n+1)*65:=by rw[dL,fG Keys.fE,sZ]
theorem oneV (k:Keys):∀v∈k.vals,v.oneCell'=true:=by
 intro v hv
 unfold Keys.vals at hv
 rcases List.mem_cons.1 hv with rfl | h
 ·rfl
 ·obtain⟨x,_,rfl⟩:=List.mem_map.1 h
  rfl
namespace kch
noncomputable abbrev fn:=Tryz.f8
noncomputable def body:Code:=bZ fn
noncomputable def A1:Code:=cs1 (cs1 (bY 3 body))
noncomputable def L:Code:=cL (cB (cs2 (cs1 (bY 3 body))))
noncomputable def D:Code:=cs2 (bY 3 body)
theorem fV:bY 3 body= .seq (.seq A1 (.block 0 (.loop L))) D:=by kernel_rfl
noncomputable def Γ (V:Keys→Cert→Int) (hV:V=ccV):Cons Tryz.prog G3:=[cc_con V hV]
def M0 (n c:Nat):List (Option SV):=aJ 42 0 [(1,.o (.a (.sld 0 0 0 n c))),(6,.o (.a (.slc 2 0 1 1))),(7,.o (.a (aB .u64 0)))]
def M1 (n c:Nat):List (Option SV):=aJ 42 0 [(6,.o (.a (.slc 2 0 1 1))),(7,.o (.a (aB .u64 0))),(13,.o (.a (.sld 0 0 0 n c))),(14,.o (.a (.v (.int .i64 n)))),(15,.o (.a (.v (.int .i64 0))))]
def M2 (n c:Nat) (m:Nat) (e j:Int):List (Option SV):=aJ 42 0 [(6,.o (.a (.slg 2 m))),(7,.o (.a (aB .u64 e))),(13,.o (.a (.sld 0 0 0 n c))),(14,.o (.a (.v (.int .i64 n)))),(15,.o (.a (.v (.int .i64 j))))]
def MD1:List (Option SV):=aJ 42 0 [(6,.o (.a (.slc 2 0 1 1)))]
def MD2 (m:Nat):List (Option SV):=aJ 42 0 [(6,.o (.a (.slg 2 m)))]
def ME (r:Int):List (Option SV):=aJ 42 0 [(4,.o (.a (.v (.slice none 0 0)))),(5,.o (.a (.v (.int .i64 r))))]
def MZ1:List (Option SV):=aJ 42 0 [(4,.o (.a (.slc 2 0 1 1))),(5,.o (.a (.v (.int .i64 0))))]
def MZ2 (m:Nat):List (Option SV):=aJ 42 0 [(4,.o (.a (.slg 2 m))),(5,.o (.a (.v (.int .i64 0))))]
section
variable (l:List Cert)
def mem1 (ty:TypeId) (k:Keys):List Blk:=[⟨false,ty,.prv (aA l)⟩,⟨true,28,.lit k.row⟩,⟨true,28,.lit k.row⟩]
def mem2 (ty:TypeId) (k:Keys) (vs:List Value) (lo:Nat) (hi:Option Nat):List Blk:=[⟨false,ty,.prv (aA l)⟩,⟨true,28,.lit k.row⟩,⟨true,28,.grv 65 vs lo hi⟩]
theorem qN (n c:Nat) (ty:TypeId) (k:Keys):oI (M0 n c) (mem1 l ty k):=by delta oI;kernel_rfl
theorem tH (n c:Nat) (ty:TypeId) (k:Keys):oI (M1 n c) (mem1 l ty k):=by delta oI;kernel_rfl
theorem qA (ty:TypeId) (k:Keys):oI (MD1) (mem1 l ty k):=by delta oI;kernel_rfl
theorem qw (ty:TypeId) (k:Keys):oI (MZ1) (mem1 l ty k):=by delta oI;kernel_rfl
theorem mg (n c:Nat) (ty:TypeId) (k:Keys) (vs:List Value) (lo:Nat) (hi:Option Nat) (m:Nat) (e j:Int):oI (M2 n c m e j) (mem2 l ty k vs lo hi):=by delta oI;kernel_rfl
theorem tF (ty:TypeId) (k:Keys) (vs:List Value) (lo:Nat) (hi:Option Nat) (m:Nat):oI (MD2 m) (mem2 l ty k vs lo hi):=by delta oI;kernel_rfl
theorem wB (ty:TypeId) (k:Keys) (vs:List Value) (lo:Nat) (hi:Option Nat) (m:Nat):oI (MZ2 m) (mem2 l ty k vs lo hi):=by delta oI;kernel_rfl
theorem idsME1 (ty:TypeId) (k:Keys) (r:Int):oI (ME r) (mem1 l ty k):=by delta oI;kernel_rfl
theorem idsME2 (ty:TypeId) (k:Keys) (vs:List Value) (lo:Nat) (hi:Option Nat) (r:Int):oI (ME r) (mem2 l ty k vs lo hi):=by delta oI;kernel_rfl
end
section
variable (V:Keys→Cert→Int) (hV:V=ccV) (l:List Cert)
theorem s0 (n c:Nat) (ty:TypeId) (k:Keys):oX (Γ V hV) 100 (dU 3 body) (aH fn [aO.enc k,.o (.a (.sld 0 0 0 n c))]) [⟨false,ty,.prv (aA l)⟩] [] .normal (M0 n c) (mem1 l ty k) []:=by delta oX;kernel_rfl
theorem a1 (n c:Nat) (ty:TypeId) (k:Keys) (g:Nat→SV):oX (Γ V hV) 100 A1 (fill g 0 (M0 n c )) (mem1 l ty k) [] .normal (M1 n c) (mem1 l ty k) []:=by delta oX;kernel_rfl
theorem e1_1 (n c:Nat) (ty:TypeId) (k:Keys) (x:Cert) (g:Nat→SV):oX (Γ V hV) 100 L (fill g 0 (M1 n c )) (mem1 l ty k) [(16,[.b true]),(19,[.ds (bK.enc x)]),(23,[.b true])] .ret (ME 1) (mem1 l ty k) [decide ((0:Int)<n)=true,(0:Int)≤0,(0:Int)<n,(0+aP 0 0 130)+130≤(aA l).length,SV.o (.g (bR (aA l) (0+aP 0 0 130) 130))=bK.enc x,decide (x.ep≤0)=true]:=by delta oX;kernel_rfl
theorem e2_1 (n c:Nat) (ty:TypeId) (k:Keys) (x:Cert) (r:Int) (g:Nat→SV):oX (Γ V hV) 100 L (fill g 0 (M1 n c )) (mem1 l ty k) [(16,[.b true]),(19,[.ds (bK.enc x)]),(23,[.b false]),(29,[.s (.o (.a (.v (.int .i64 r))))]),(31,[.b true])] .ret (ME r) (mem1 l ty k) [decide ((0:Int)<n)=true,(0:Int)≤0,(0:Int)<n,(0+aP 0 0 130)+130≤(aA l).length,SV.o (.g (bR (aA l) (0+aP 0 0 130) 130))=bK.enc x,decide (x.ep≤0)=false,COk x,(av .i64).enc (V k x)=(av .i64).enc r,(!(r==0))=true]:=by delta oX;kernel_rfl
theorem out_1 (n c:Nat) (ty:TypeId) (k:Keys) (g:Nat→SV):oX (Γ V hV) 100 L (fill g 0 (M1 n c )) (mem1 l ty k) [(16,[.b false])] (.exit 0) (MD1) (mem1 l ty k) [decide ((0:Int)<n)=false]:=by delta oX;kernel_rfl
theorem tL (ty:TypeId) (k:Keys) (g:Nat→SV):oX (Γ V hV) 100 D (fill g 0 (MD1 )) (mem1 l ty k) [] .ret (MZ1) (mem1 l ty k) []:=by delta oX;kernel_rfl
theorem e1_2 (n c:Nat) (ty:TypeId) (k:Keys) (x:Cert) (vs:List Value) (m lo:Nat) (e j:Int) (g:Nat→SV):oX (Γ V hV) 100 L (fill g 0 (M2 n c m e j)) (mem2 l ty k vs lo none) [(16,[.b true]),(19,[.ds (bK.enc x)]),(23,[.b true])] .ret (ME 1) (mem2 l ty k vs lo none) [decide ((j:Int)<n)=true,(0:Int)≤j,(j:Int)<n,(0+aP 0 j 130)+130≤(aA l).length,SV.o (.g (bR (aA l) (0+aP 0 j 130) 130))=bK.enc x,decide (x.ep≤e)=true]:=by delta oX;kernel_rfl
theorem e2_2 (n c:Nat) (ty:TypeId) (k:Keys) (x:Cert) (vs:List Value) (m lo:Nat) (e j:Int) (q:Keys) (r:Int) (g:Nat→SV):oX (Γ V hV) 100 L (fill g 0 (M2 n c m e j)) (mem2 l ty k vs lo none) [(16,[.b true]),(19,[.ds (bK.enc x)]),(23,[.b false]),(27,[.ds (aO.enc q)]),(29,[.s (.o (.a (.v (.int .i64 r))))]),(31,[.b true])] .ret (ME r) (mem2 l ty k vs lo none) [decide ((j:Int)<n)=true,(0:Int)≤j,(j:Int)<n,(0+aP 0 j 130)+130≤(aA l).length,SV.o (.g (bR (aA l) (0+aP 0 j 130) 130))=bK.enc x,decide (x.ep≤e)=false,(0:Int)≤j,j<m,(0+aP 0 j 65)+65≤vs.length,SV.o (.g (bR vs (0+aP 0 j 65) 65))=aO.enc q,COk x,(av .i64).enc (V q x)=(av .i64).enc r,(!(r==0))=true]:=by delta oX;kernel_rfl
theorem out_2 (n c:Nat) (ty:TypeId) (k:Keys) (vs:List Value) (m lo:Nat) (e j:Int) (g:Nat→SV):oX (Γ V hV) 100 L (fill g 0 (M2 n c m e j)) (mem2 l ty k vs lo none) [(16,[.b false])] (.exit 0) (MD2 m) (mem2 l ty k vs lo none) [decide ((j:Int)<n)=false]:=by delta oX;kernel_rfl
theorem fin_2 (ty:TypeId) (k:Keys) (vs:List Value) (m lo:Nat) (g:Nat→SV):oX (Γ V hV) 100 D (fill g 0 (MD2 m)) (mem2 l ty k vs lo none) [] .ret (MZ2 m) (mem2 l ty k vs lo none) []:=by delta oX;kernel_rfl
theorem go_1 (n c:Nat) (ty:TypeId) (k:Keys) (x:Cert) (r:Int) (g:Nat→SV):oN [0,1,5] (Γ V hV) 100 L (fill g 0 (M1 n c )) (mem1 l ty k) [(16,[.b true]),(19,[.ds (bK.enc x)]),(23,[.b false]),(29,[.s (.o (.a (.v (.int .i64 r))))]),(31,[.b false])] .normal (M2 n c 2 x.ep 1) (mem2 l ty k (k.vals++x.k.vals) 2 none) [decide ((0:Int)<n)=true,(0:Int)≤0,(0:Int)<n,(0+aP 0 0 130)+130≤(aA l).length,SV.o (.g (bR (aA l) (0+aP 0 0 130) 130))=bK.enc x,decide (x.ep≤0)=false,COk x,(av .i64).enc (V k x)=(av .i64).enc r,(!(r==0))=false,0+0+1*65≤x.k.row.length,0+0+1*65≤k.row.length,1<0+1+1,Room Tryz.prog 28 (0+1+1)]:=by delta oN;kernel_rfl
theorem go_2 (n c:Nat) (ty:TypeId) (k:Keys) (x:Cert) (vs:List Value) (m:Nat) (e j:Int) (q:Keys) (r:Int) (j':Int) (g:Nat→SV):oX (Γ V hV) 100 L (fill g 0 (M2 n c m e j)) (mem2 l ty k vs (m+1) none) [(16,[.b true]),(19,[.ds (bK.enc x)]),(23,[.b false]),(27,[.ds (aO.enc q)]),(29,[.s (.o (.a (.v (.int .i64 r))))]),(31,[.b false]),(40,[.n j'])] .normal (M2 n c (m+1) x.ep j') (mem2 l ty k (vs++x.k.vals) (m+1) none) [decide ((j:Int)<n)=true,(0:Int)≤j,(j:Int)<n,(0+aP 0 j 130)+130≤(aA l).length,SV.o (.g (bR (aA l) (0+aP 0 j 130) 130))=bK.enc x,decide (x.ep≤e)=false,(0:Int)≤j,j<m,(0+aP 0 j 65)+65≤vs.length,SV.o (.g (bR vs (0+aP 0 j 65) 65))=aO.enc q,COk x,(av .i64).enc (V q x)=(av .i64).enc r,(!(r==0))=false,0+0+1*65≤x.k.row.length,m*65=vs.length,m+1≤m+1,∀v∈x.k.vals,v.oneCell'=true,IntKind.i64.wrap (j+1)=j']:=by delta oX;kernel_rfl
theorem gr_2 (n c:Nat) (ty:TypeId) (k:Keys) (x:Cert) (vs:List Value) (m lo:Nat) (e j:Int) (q:Keys) (r:Int) (j':Int) (g:Nat→SV):oN [0,1,5] (Γ V hV) 100 L (fill g 0 (M2 n c m e j)) (mem2 l ty k vs lo (some (m+1))) [(16,[.b true]),(19,[.ds (bK.enc x)]),(23,[.b false]),(27,[.ds (aO.enc q)]),(29,[.s (.o (.a (.v (.int .i64 r))))]),(31,[.b false]),(40,[.n j'])] .normal (M2 n c (m+1) x.ep j') (mem2 l ty k (vs++x.k.vals) (m+1) none) [decide ((j:Int)<n)=true,(0:Int)≤j,(j:Int)<n,(0+aP 0 j 130)+130≤(aA l).length,SV.o (.g (bR (aA l) (0+aP 0 j 130) 130))=bK.enc x,decide (x.ep≤e)=false,(0:Int)≤j,j<m,(0+aP 0 j 65)+65≤vs.length,SV.o (.g (bR vs (0+aP 0 j 65) 65))=aO.enc q,COk x,(av .i64).enc (V q x)=(av .i64).enc r,(!(r==0))=false,0+0+1*65≤x.k.row.length,m*65=vs.length,m+1≤m+1,Room Tryz.prog 28 (m+1),IntKind.i64.wrap (j+1)=j']:=by delta oN;kernel_rfl
end
section
variable (l:List Cert) (ty:TypeId) (k:Keys)
theorem zr1 (g:Nat→SV):eRes tys (fill g 0 (MZ1 )) (fun q=>(mem1 l ty k )[q]?) fn.results.toList=some [.a (.slc 2 0 1 1),.a (.v (.int .i64 0))]:=by kernel_rfl
theorem zr2 (vs:List Value) (lo:Nat) (hi:Option Nat) (m:Nat) (g:Nat→SV):eRes tys (fill g 0 (MZ2 m)) (fun q=>(mem2 l ty k vs lo hi)[q]?) fn.results.toList=some [.a (.slg 2 m),.a (.v (.int .i64 0))]:=by kernel_rfl
theorem ze1 (r:Int) (g:Nat→SV):eRes tys (fill g 0 (ME r)) (fun q=>(mem1 l ty k )[q]?) fn.results.toList=some [.a (.v (.slice none 0 0)),.a (.v (.int .i64 r))]:=by kernel_rfl
theorem ze2 (vs:List Value) (lo:Nat) (hi:Option Nat) (r:Int) (g:Nat→SV):eRes tys (fill g 0 (ME r)) (fun q=>(mem2 l ty k vs lo hi)[q]?) fn.results.toList=some [.a (.v (.slice none 0 0)),.a (.v (.int .i64 r))]:=by kernel_rfl
end
def Mx (l:List Cert) (n c:Nat):Nat→List (Option SV)
 | 0=>M1 n c
 | i+1=>M2 n c (i+2) (epN l (i+1)) ((i+1:Nat):Int)
def Bx (l:List Cert) (ty:TypeId) (k:Keys):Nat→List Blk
 | 0=>mem1 l ty k
 | i+1=>mem2 l ty k (dL (kl l k (i+1))) (i+2) none
theorem run (V:Keys→Cert→Int) (hV:V=ccV) (l:List Cert) (n c:Nat) (ty:TypeId) (k:Keys) (hn:l.length=n) (hm:n≤1000000) (hx:∀i,i<n→COk (l.getD i zc)):aK Tryz.prog G3 1 body (aH fn [aO.enc k,.o (.a (.sld 0 0 0 n c))]) [⟨false,ty,.prv (aA l)⟩] (aN tys fn (chQ V l k n)):=by
 have hl:(aA l).length=n*130:=by rw[←hn];exact fG Cert.fE l
 have hA:∀i:Nat,i<n→0+aP 0 (i:Int) 130+130≤(aA l).length:=fun i h=>by
  have:=Nat.mul_le_mul_right 130 (show i+1≤n by omega)
  rw[lT,hl];omega
 have hB:∀i:Nat,i<n→SV.o (.g (bR (aA l) (0+aP 0 (i:Int) 130) 130))=bK.enc (l.getD i zc):=fun i h=>by
  rw[lT];exact ld_cert l (by omega)
 refine Runs.bS ah mixed 3 (s0 V hV l n c ty k ) trivial (qN l n c ty k ) rfl fun g=> ?_
 rw[fV]
 refine Runs.seq (Runs.seq (Runs.au ah mixed (a1 V hV l n c ty k g) trivial (tH l n c ty k ) rfl fun g=> ?_))
 refine Runs.block ?_
 refine Runs.dS (Mx l n c ) (Bx l ty k ) (fun i=>i≤n∧gT V l k i=0) (fun i=>n-i) ?_ 0 ⟨Nat.zero_le _,rfl⟩ g
 rintro i g ⟨hi,he⟩
 by_cases hin:n=i
 ·cases i with
  | zero=>
   subst hin
   refine Runs.au ah mixed (out_1 V hV l 0 c ty k g) ⟨decide_eq_false (by omega),trivial⟩ (qA l ty k) rfl fun g=> ?_
   show aK _ _ _ _ _ _ _
   exact Runs.au ah mixed (tL V hV l ty k g) trivial (qw l ty k) rfl fun g=>aN.ret (zr1 l ty k g) (.inr (.inl ⟨he,rfl,2,rfl,rfl⟩))
  | succ i=>
   subst hin
   refine Runs.au ah mixed (out_2 V hV l (i+1) c ty k _ _ _ _ _ g) ⟨decide_eq_false (by omega),trivial⟩ (tF l ty k _ _ _ _) rfl fun g=> ?_
   show aK _ _ _ _ _ _ _
   exact Runs.au ah mixed (fin_2 V hV l ty k _ _ _ g) trivial (wB l ty k _ _ _ _) rfl fun g=>aN.ret (zr2 l ty k _ _ _ _ g) (.inr (.inr ⟨he,by omega,2,rfl,rfl⟩))
 ·have hi':i<n:=by omega
  have hs:=errN_next he
  have hc:=hx i hi'
  have hr:∀r:Int,gT V l k (i+1)=r→r≠0→gT V l k n=r:=fun r h h0=>by
   rw[←h] at h0 ⊢
   exact Ag h0 hi'
  generalize hxe:l.getD i zc=x at*
  cases d1:decide (x.ep≤epN l i) with
  | true=>
   rw[d1,cond_true] at hs
   have e1:=hr 1 hs (by omega)
   cases i with
   | zero=>
    refine Runs.au ah mixed (e1_1 V hV l n c ty k x g) ⟨decide_eq_true (by omega),by omega,by omega,hA 0 hi',(hB 0 hi').trans (by rw[hxe]),d1,trivial⟩ (idsME1 l ty k 1) rfl fun g=> ?_
    exact aN.ret (ze1 l ty k 1 g) (.inl ⟨by rw[e1];omega,by rw[e1];rfl⟩)
   | succ i=>
    refine Runs.au ah mixed (e1_2 V hV l n c ty k x _ _ _ _ _ g) ⟨decide_eq_true (by omega),by omega,by omega,hA _ hi',(hB _ hi').trans (by rw[hxe]),d1,trivial⟩ (idsME2 l ty k _ _ _ 1) rfl fun g=> ?_
    exact aN.ret (ze2 l ty k _ _ _ 1 g) (.inl ⟨by rw[e1];omega,by rw[e1];rfl⟩)
  | false=>
   rw[d1,cond_false] at hs
   by_cases h0:V (lV l k i) x=0
   ·have hs0:gT V l k (i+1)=0:=hs.trans h0
    cases i with
    | zero=>
     refine Runs.bW ah mixed _ (go_1 V hV l n c ty k x 0 g) ⟨decide_eq_true (by omega),by omega,by omega,hA 0 hi',(hB 0 hi').trans (by rw[hxe]),d1,hc,congrArg (fun v=>(av .i64).enc v) h0,rfl,by show 65≤65;omega,by show 65≤65;omega,by omega,roomK _ (by omega),trivial⟩ (mg l n c ty k _ _ _ 2 _ _) rfl fun g=> ?_
     refine⟨1,g,?_,?_,⟨by omega,hs0⟩,by omega⟩
     ·subst hxe;rfl
     ·have hkv:k.vals++x.k.vals=dL (kl l k (0+1)):=by rw[kl,kl,yT,dL,List.flatMap_cons,List.flatMap_nil,List.append_nil,hxe]
      rw[hkv];rfl
    | succ i=>
     have q0:(0:Int)≤((i+1:Nat):Int):=by omega
     have q1:((i+1:Nat):Int)<((i+2:Nat):Int):=by omega
     have hk:=uL l k (i+1)
     have q2:0+aP 0 ((i+1:Nat):Int) 65+65≤(dL (kl l k (i+1))).length:=by rw[lT,hk];omega
     have q3:SV.o (.g (bR (dL (kl l k (i+1))) (0+aP 0 ((i+1:Nat):Int) 65) 65))=aO.enc (lV l k (i+1)):=by
      rw[lT,ld_keys _ (by rw[sZ];omega),kl_get l k _ _ (Nat.le_refl _)]
     have hw:IntKind.i64.wrap (((i+1:Nat):Int)+1)=((i+1+1:Nat):Int):=by rw[IntKind.wrap_i64];omega
     have hkv:dL (kl l k (i+1))++x.k.vals=dL (kl l k (i+1+1)):=by rw[kl_succ l k (i+1),hxe]
     refine Runs.roomV 2 (i+2+1) (own:=true) (ty:=28) (s:=65) (vs:=dL (kl l k (i+1))) (lo:=i+2) rfl ?_ ?_
     ·refine Runs.au ah mixed (go_2 V hV l n c ty k x (dL (kl l k (i+1))) (i+2) (epN l (i+1)) ((i+1:Nat):Int) (lV l k (i+1)) 0 ((i+1+1:Nat):Int) g) ⟨decide_eq_true (by omega),by omega,by omega,hA _ hi',(hB _ hi').trans (by rw[hxe]),d1,q0,q1,q2,q3,hc,congrArg (fun v=>(av .i64).enc v) h0,rfl,by show 65≤65;omega,by rw[hk],Nat.le_refl _,oneV _,hw,trivial⟩ (mg l n c ty k _ _ _ (i+2+1) _ _) rfl fun g=> ?_
      refine⟨i+1+1,g,?_,?_,⟨by omega,hs0⟩,by omega⟩
      ·subst hxe;rfl
      ·rw[hkv];rfl
     ·refine Runs.bW ah mixed _ (gr_2 V hV l n c ty k x (dL (kl l k (i+1))) (i+2) (i+2) (epN l (i+1)) ((i+1:Nat):Int) (lV l k (i+1)) 0 ((i+1+1:Nat):Int) g) ⟨decide_eq_true (by omega),by omega,by omega,hA _ hi',(hB _ hi').trans (by rw[hxe]),d1,q0,q1,q2,q3,hc,congrArg (fun v=>(av .i64).enc v) h0,rfl,by show 65≤65;omega,by rw[hk],Nat.le_refl _,roomK _ (by omega),hw,trivial⟩ (mg l n c ty k _ _ _ (i+2+1) _ _) rfl fun g=> ?_
      refine⟨i+1+1,g,?_,?_,⟨by omega,hs0⟩,by omega⟩
      ·subst hxe;rfl
      ·rw[hkv];rfl
   ·have e1:=hr _ hs h0
    have hne:(!(V (lV l k i) x==0))=true:=by simpa using h0
    cases i with
    | zero=>
     refine Runs.au ah mixed (e2_1 V hV l n c ty k x (V (lV l k 0) x) g) ⟨decide_eq_true (by omega),by omega,by omega,hA 0 hi',(hB 0 hi').trans (by rw[hxe]),d1,hc,rfl,hne,trivial⟩ (idsME1 l ty k _) rfl fun g=> ?_
     exact aN.ret (ze1 l ty k _ g) (.inl ⟨by rw[e1];exact h0,by rw[e1];rfl⟩)
    | succ i=>
     have q0:(0:Int)≤((i+1:Nat):Int):=by omega
     have q1:((i+1:Nat):Int)<((i+2:Nat):Int):=by omega
     have hk:=uL l k (i+1)
     have q2:0+aP 0 ((i+1:Nat):Int) 65+65≤(dL (kl l k (i+1))).length:=by rw[lT,hk];omega
     have q3:SV.o (.g (bR (dL (kl l k (i+1))) (0+aP 0 ((i+1:Nat):Int) 65) 65))=aO.enc (lV l k (i+1)):=by
      rw[lT,ld_keys _ (by rw[sZ];omega),kl_get l k _ _ (Nat.le_refl _)]
     refine Runs.au ah mixed (e2_2 V hV l n c ty k x (dL (kl l k (i+1))) (i+2) (i+2) (epN l (i+1)) ((i+1:Nat):Int) (lV l k (i+1)) (V (lV l k (i+1)) x) g) ⟨decide_eq_true (by omega),by omega,by omega,hA _ hi',(hB _ hi').trans (by rw[hxe]),d1,q0,q1,q2,q3,hc,rfl,hne,trivial⟩ (idsME2 l ty k _ _ _ _) rfl fun g=> ?_
     exact aN.ret (ze2 l ty k _ _ _ _ g) (.inl ⟨by rw[e1];exact h0,by rw[e1];rfl⟩)
end kch
end Go.Proofs.YthlmepolmemejaaGreatDoor
