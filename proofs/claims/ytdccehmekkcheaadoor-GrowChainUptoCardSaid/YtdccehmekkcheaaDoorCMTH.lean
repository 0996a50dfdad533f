/- Package tree: Nodes: walk, contract. -/
import Derived.Test.YtdccehmekkcheaaDoorCFo
import Derived.Test.YtdccehmekkcheaaDoorCMTG
import Derived.Test.YtdccehmekkcheaaDoorCMTC
set_option linter.unusedSimpArgs false
set_option linter.unusedVariables false
namespace Go.Proofs.YtdccehmekkcheaaDoor
open Go Go.Eng Go.RowKit
set_option maxRecDepth 100000
def av:List Value→List Lf
 | []=>[]
 | v::r=>match Lf.of ((v::r.take 63).map Atom.v) with
  | some n=>n::av (r.drop 63)
  | none=>[]
 termination_by l=>l.length
 decreasing_by simp only[List.length_drop,List.length_cons];omega
theorem Lf.of_row (n:Lf):Lf.of n.row=some n:=rfl
theorem bW:∀l:List Lf,av (lvals l)=l
 | []=>by rw[show lvals []=[] from rfl,av]
 | n::r=>by
  have e:lvals (n::r)=n.vals++lvals r:=by simp[lvals]
  rw[e]
  have e2:n.vals++lvals r= .int .u8 n.lab.b0::(((n.lab.to++n.val.to).tail.map (Value.int .u8))++lvals r):=rfl
  have hl:((n.lab.to++n.val.to).tail.map (Value.int .u8)).length=63:=rfl
  rw[e2,av,List.take_append_of_le_length (by rw[hl];omega),List.take_of_length_le (by rw[hl];omega),List.drop_append,hl,Nat.sub_self,List.drop_zero,List.drop_eq_nil_of_le (by rw[hl];omega),List.nil_append]
  have e3:(Value.int .u8 n.lab.b0::(n.lab.to++n.val.to).tail.map (Value.int .u8)).map Atom.v=n.row:=rfl
  rw[e3,Lf.of_row]
  simp only
  rw[bW r]
def bI (l:List Lf):Prop:=∀x∈l,LOk x
theorem bI.at {l:List Lf} (h:bI l) {i:Nat} (hi:i<l.length):LOk (l.getD i zl):=by
 have e:l.getD i zl=l[i]:=by simp[List.getD,List.getElem?_eq_getElem hi]
 rw[e]
 exact h _ (List.getElem_mem hi)
noncomputable def leaves (l:List Lf) (i:Nat):List Nd:=(l.take i).map bP
theorem leaves_len {l:List Lf} {i:Nat} (h:i≤l.length):(leaves l i).length=i:=by unfold leaves;rw[List.length_map,List.length_take];omega
theorem sI {l:List Lf} {i:Nat} (h:i<l.length):leaves l (i+1)=leaves l i++[bP (l.getD i zl)]:=by
 unfold leaves
 have e:l.getD i zl=l[i]:=by simp[List.getD,List.getElem?_eq_getElem h]
 rw[e,List.take_succ_eq_append_getElem h,List.map_append]
 rfl
theorem qL (l:List Lf):leaves l l.length=l.map bP:=by unfold leaves;rw[List.take_length]
theorem put_leaf {l:List Lf} {i n:Nat} (hn:l.length=n) (h:i<n) (x:Nd):putV (i*65) x.vals (ah (leaves l i)++iT zn.vals (n-i))=ah (leaves l i++[x])++iT zn.vals (n-(i+1)):=by
 have hl:(ah (leaves l i)).length=i*65:=by rw[bH,leaves_len (by omega)]
 unfold putV
 rw[List.take_append_of_le_length (by omega),List.take_of_length_le (by omega),List.drop_append,hl,List.drop_eq_nil_of_le (by omega),List.nil_append,show i*65+x.vals.length-i*65=65 by rw[Nd.dG];omega]
 rw[show n-i=(n-(i+1))+1 by omega,iT,List.drop_append,show(zn.vals).length=65 from rfl,Nat.sub_self,List.drop_zero,List.drop_eq_nil_of_le (by rw[Nd.dG];omega),List.nil_append,ko,kQ,List.append_assoc]
theorem mY (n:Nat) (h:n≤4000000):Room Tryd.prog 33 n:=by
 have h1:(Tryd.prog.info? 33).map (·.bytes)=some 72:=by kernel_rfl
 cases hq:Tryd.prog.info? 33 with
 | none=>rw[hq] at h1;cases h1
 | some j=>
  rw[hq] at h1
  have:j.bytes=72:=by simpa using h1
  exact⟨j,hq,by rw[this];omega,by omega⟩
noncomputable def bq (l:List Lf):List Nd:=bX (l.map bP)
theorem je (l:List Lf):(bq l).length=l.length:=by unfold bq;rw[jk,List.length_map]
namespace tnd
noncomputable abbrev fn:=Tryd.f54
noncomputable def body:Code:=d9 fn
noncomputable def L:Code:=cL (cB (cs2 (cs1 (bM 2 body))))
noncomputable def A1:Code:=cs1 (cs1 (bM 2 body))
noncomputable def D:Code:=cs2 (bM 2 body)
noncomputable def Γ:Cons Tryd.prog GT:=[tleaf.con,sort_con]
theorem dJ:bM 2 body= .seq (.seq A1 (.block 0 (.loop L))) D:=by kernel_rfl
def mem (l:List Lf) (ty:TypeId) (n:Nat) (vs:List Value):List Blk:=[⟨false,ty,.prv (lvals l)⟩,⟨true,33,.grv 65 vs n none⟩]
def M0 (n c:Nat):List (Option SV):=aD 25 0 [(0,.o (.a (.sld 0 0 0 n c))),(3,.o (.a (.slg 1 n)))]
def M1 (n c:Nat) (j:Int):List (Option SV):=aD 25 0 [(3,.o (.a (.slg 1 n))),(9,.o (.a (.sld 0 0 0 n c))),(10,.o (.a (aG .i64 n))),(11,.o (.a (aG .i64 j)))]
def M2 (n:Nat):List (Option SV):=aD 25 0 [(3,.o (.a (.slg 1 n)))]
def M3 (n:Nat):List (Option SV):=aD 25 0 [(2,.o (.a (.slg 1 n)))]
section
variable (l:List Lf)
theorem fO (n c:Nat) (ty:TypeId) (vs:List Value):oI (M0 n c) (mem l ty n vs):=by delta oI;kernel_rfl
theorem dh (n c:Nat) (ty:TypeId) (vs:List Value) (j:Int):oI (M1 n c j) (mem l ty n vs):=by delta oI;kernel_rfl
theorem gG (n:Nat) (ty:TypeId) (vs:List Value):oI (M2 n) (mem l ty n vs):=by delta oI;kernel_rfl
theorem jO (n:Nat) (ty:TypeId) (vs:List Value):oI (M3 n) (mem l ty n vs):=by delta oI;kernel_rfl
theorem s0 (n c:Nat) (ty:TypeId):oX Γ 300 (eD 2 body) (aK fn [.o (.a (.sld 0 0 0 n c))]) [⟨false,ty,.prv (lvals l)⟩] [] .normal (M0 n c) (mem l ty n (iT zn.vals n)) [0≤(n:Int),(n:Int)=n,Room Tryd.prog 33 n]:=by delta oX;kernel_rfl
theorem a1 (n c:Nat) (ty:TypeId) (vs:List Value) (g:Nat→SV):oX Γ 300 A1 (fill g 0 (M0 n c )) (mem l ty n vs) [] .normal (M1 n c 0) (mem l ty n vs) []:=by delta oX;kernel_rfl
theorem stp (n c:Nat) (ty:TypeId) (vs:List Value) (j j':Int) (x:Lf) (y:Nd) (g:Nat→SV):oN [0,1] Γ 100 L (fill g 0 (M1 n c j)) (mem l ty n vs) [(12,[.b true]),(15,[.ds (cLf.enc x)]),(19,[.s (cNd.enc y)]),(21,[.n j'])] .normal (M1 n c j') (mem l ty n (putV (0+aN 0 j 65) y.vals vs)) [decide (j<n)=true,0≤j,j<n,0+aN 0 j 64+64≤(lvals l).length,SV.o (.g (bn (lvals l) (0+aN 0 j 64) 64))=cLf.enc x,LOk x,cNd.enc (bP x)=cNd.enc y,0≤j,j<n,0+aN 0 j 65+65≤vs.length,IntKind.i64.wrap (j+1)=j']:=by delta oN;kernel_rfl
theorem out (n c:Nat) (ty:TypeId) (vs:List Value) (j:Int) (g:Nat→SV):oX Γ 300 L (fill g 0 (M1 n c j)) (mem l ty n vs) [(12,[.b false])] (.exit 0) (M2 n) (mem l ty n vs) [decide (j<n)=false]:=by delta oX;kernel_rfl
theorem fin (n:Nat) (ty:TypeId) (vs:List Value) (g:Nat→SV):oX Γ 300 D (fill g 0 (M2 n )) (mem l ty n vs) [] .ret (M3 n) (mem l ty n (ah (bX (ak vs)))) [65=65,vs=ah (ak vs),(ak vs).length=n,n<4611686018427387904]:=by delta oX;kernel_rfl
theorem zr (n:Nat) (ty:TypeId) (vs:List Value) (g:Nat→SV):eRes tys (fill g 0 (M3 n )) (fun k=>(mem l ty n vs)[k]?) fn.results.toList=some [.a (.slg 1 n)]:=by kernel_rfl
theorem run (n c:Nat) (ty:TypeId) (hn:l.length=n) (hm:n≤4000000) (hok:bI l):aF Tryd.prog GT 1 body (aK fn [.o (.a (.sld 0 0 0 n c))]) [⟨false,ty,.prv (lvals l)⟩] (aH tys fn (bJ (.o (.a (.slg 0 n))) (.new 33 (.grv 65 (ah (bq l)) n none)))):=by
 have hl:(lvals l).length=n*64:=by rw[←hn];exact bU l
 refine Runs.dz aj mixed 2 (s0 l n c ty) ⟨by omega,rfl,mY n hm,trivial⟩ (fO l n c ty _) rfl fun g=> ?_
 rw[dJ]
 refine Runs.seq (Runs.seq (Runs.au aj mixed (a1 l n c ty _ g) trivial (dh l n c ty _ _) rfl fun g=> ?_))
 refine Runs.block ?_
 have h00:iT zn.vals n=ah (leaves l 0)++iT zn.vals (n-0):=rfl
 rw[h00]
 refine Runs.dA (fun(i:Nat)=>M1 n c (i:Int)) (fun i=>mem l ty n (ah (leaves l i)++iT zn.vals (n-i))) (fun i=>i≤n) (fun i=>n-i) ?_ 0 (Nat.zero_le _) g
 rintro i g hi
 rcases Nat.lt_or_ge i n with h | h
 ·have o64:=offs i 64
  have o65:=offs i 65
  have hb:i*64+64≤n*64:=by have:=Nat.mul_le_mul_right 64 (show i+1≤n by omega);omega
  have hb5:i*65+65≤n*65:=by have:=Nat.mul_le_mul_right 65 (show i+1≤n by omega);omega
  refine Runs.aP aj mixed [0,1] (stp l n c ty _ i ((i+1:Nat):Int) (l.getD i zl) (bP (l.getD i zl)) g) ⟨decide_eq_true (by omega),by omega,by omega,by rw[o64,hl];omega,by rw[o64];exact ld_lf l (by omega),hok.at (by omega),rfl,by omega,by omega,?_,by rw[IntKind.wrap_i64];omega,trivial⟩ (dh l n c ty _ _) rfl fun g=> ?_
  ·rw[o65,List.length_append,bH,leaves_len (by omega),nE,show zn.vals.length=65 from rfl,Nat.sub_mul]
   omega
  ·refine⟨i+1,g,rfl,?_,by omega,by omega⟩
   rw[o65,put_leaf hn h,←sI (by omega)]
 ·obtain rfl:i=n:=by omega
  refine Runs.au aj mixed (out l i c ty _ i g) ⟨decide_eq_false (by omega),trivial⟩ (gG l i ty _) rfl fun g=> ?_
  show aF _ _ _ _ _ _ _
  have e:ah (leaves l i)++iT zn.vals (i-i)=ah (l.map bP):=by rw[Nat.sub_self,iT,List.append_nil,←hn,qL]
  rw[e]
  refine Runs.au aj mixed (fin l i ty _ g) ⟨rfl,by rw[bE],by rw[bE,List.length_map];exact hn,by omega,trivial⟩ (jO l i ty _) rfl fun g=>aH.ret (zr l i ty _ g) ?_
  rw[bE]
  exact⟨1,rfl,rfl⟩
end
def MZ:List (Option SV):=aD 25 0 [(2,.o (.a (.slg 0 0)))]
noncomputable def memZ:List Blk:=[⟨true,33,.grv 65 (ah (bX (ak []))) 0 none⟩]
theorem nil (a:Option Addr):oX Γ 300 body (aK fn [.o (.a (.v (.slice a 0 0)))]) [] [(8,[.dyn])] .ret MZ memZ [(0:Int)≤0,(0:Int)=0,Room Tryd.prog 33 0,65=65,[]=ah (ak []),(ak []).length=0,0<4611686018427387904]:=by delta oX;kernel_rfl
theorem nil_z (g:Nat→SV):eRes tys (fill g 0 MZ) (fun k=>memZ[k]?) fn.results.toList=some [.a (.slg 0 0)]:=by kernel_rfl
noncomputable def spec:List aU→Option (SV × dH × Cst)
 | [.winv _ vs n ty]=>some (.o (.a (.slg 0 n)),.new 33 (.grv 65 (ah (bq (av vs))) n none),[vs=lvals (av vs),(av vs).length=n,n≤4000000,bI (av vs)])
 | [.val (.o (.a (.v (.slice a 0 0))))]=>some (.o (.a (.slg 0 0)),.new 33 (.grv 65 (ah (bq [])) 0 none),[])
 | _=>none
theorem dec0:ak []=[]:=by rw[ak]
theorem nil_run (a:Option Addr):aF Tryd.prog GT 0 body (aK fn [.o (.a (.v (.slice a 0 0)))]) [] (aH tys fn (bJ (.o (.a (.slg 0 0))) (.new 33 (.grv 65 (ah (bq [])) 0 none)))):=by
 refine Runs.au aj mixed (nil a) ⟨Int.le_refl _,rfl,mY 0 (by omega),rfl,by rw[dec0];rfl,by rw[dec0];rfl,by omega,trivial⟩ (by kernel_rfl) rfl fun g=>aH.ret (nil_z g) ?_
 unfold memZ
 rw[dec0]
 exact⟨0,rfl,rfl⟩
noncomputable def con:Con Tryd.prog GT:=Con.parts aj 54 fn Tryd.func54 (by kernel_rfl) (c:=body) (by kernel_rfl) [.winv 64] spec
 (fun ps r e p h hp=>by
  unfold spec at h
  split at h<;>cases h
  ·exact⟨rfl,fun b hb=>by simp only[bf,aU.blk,List.append_nil,List.nil_append,List.mem_singleton] at hb;rw[hb]⟩
  ·exact⟨rfl,fun b hb=>by simp[bf,aU.blk] at hb⟩)
 (fun ps r e p cap h hp hi=>by
  unfold spec at h
  split at h<;>cases h
  ·rename_i s vs n ty
   obtain⟨p1,p2,p3,p4,_⟩:=hp
   have q:=run (av vs) n (cap 0) ty p2 p3 p4
   rw[←p1] at q
   exact q
  ·exact nil_run _)
end tnd
namespace rnd
noncomputable abbrev fn:=Tryd.f24
noncomputable def body:Code:=d9 fn
noncomputable def L:Code:=cL (cB (cs2 (cs1 (bM 2 body))))
noncomputable def A1:Code:=cs1 (cs1 (bM 2 body))
noncomputable def D:Code:=cs2 (bM 2 body)
noncomputable def X:Code:=cB (cs1 (bM 2 L))
noncomputable def R14:Code:=cs2 (bM 2 L)
noncomputable def LI:Code:=cL (cB (cs1 (bM 3 X)))
noncomputable def E:Code:=cs1 (cs2 (bM 3 X))
noncomputable def R11:Code:=cs1 (cs2 (cs2 (bM 3 X)))
noncomputable def T:Code:=cs2 (cs2 (cs2 (bM 3 X)))
noncomputable def Γ:Cons Tryd.prog GT:=[rleaf.con,blw.con]
theorem dJ:bM 2 body= .seq (.seq A1 (.block 0 (.loop L))) D:=by kernel_rfl
theorem suf_L:bM 2 L= .seq (.block 1 X) R14:=by kernel_rfl
theorem suf_X:bM 3 X= .seq (.block 2 (.loop LI)) (.seq E (.seq R11 T)):=by kernel_rfl
section
variable (l:List Lf) (ty:TypeId)
def m0:List Blk:=[⟨false,ty,.prv (lvals l)⟩]
def mz (x:Nd):List Blk:=[⟨false,ty,.prv (lvals l)⟩,⟨true,33,.lit x.row⟩]
def ms (vs:List Value) (lo:Nat) (hi:Option Nat):List Blk:=[⟨false,ty,.prv (lvals l)⟩,⟨true,33,.grv 65 vs lo hi⟩]
def mx (vs:List Value) (lo:Nat) (hi:Option Nat) (x:Nd):List Blk:=[⟨false,ty,.prv (lvals l)⟩,⟨true,33,.grv 65 vs lo hi⟩,⟨true,33,.lit x.row⟩]
end
def M0 (n c:Nat):List (Option SV):=aD 66 0 [(0,.o (.a (.sld 0 0 0 n c))),(4,.o (.a (.v (.slice none 0 0))))]
def MAz (n c:Nat):List (Option SV):=aD 66 0 [(0,.o (.a (.sld 0 0 0 n c))),(4,.o (.a (.v (.slice none 0 0)))),(9,.o (.a (aG .i64 n))),(10,.o (.a (aG .i64 0)))]
def MBz (n c:Nat):List (Option SV):=aD 66 0 [(0,.o (.a (.sld 0 0 0 n c))),(4,.o (.a (.v (.slice none 0 0)))),(6,.o (.a (.ptr 1 0))),(7,.o (.a (aG .i64 0))),(9,.o (.a (aG .i64 n))),(10,.o (.a (aG .i64 0)))]
section
variable (n c:Nat) (i:Int) (r:Nat)
def MAs:List (Option SV):=aD 66 0 [(0,.o (.a (.sld 0 0 0 n c))),(4,.o (.a (.slg 1 r))),(9,.o (.a (aG .i64 n))),(10,.o (.a (aG .i64 i)))]
def MBs (k:Int):List (Option SV):=aD 66 0 [(0,.o (.a (.sld 0 0 0 n c))),(4,.o (.a (.slg 1 r))),(6,.o (.a (.ptr 2 0))),(7,.o (.a (aG .i64 k))),(9,.o (.a (aG .i64 n))),(10,.o (.a (aG .i64 i)))]
def MTs (k:Int) (R:Nat):List (Option SV):=aD 66 0 [(0,.o (.a (.sld 0 0 0 n c))),(4,.o (.a (.sld 1 0 0 r R))),(6,.o (.a (.ptr 2 0))),(7,.o (.a (aG .i64 k))),(9,.o (.a (aG .i64 n))),(10,.o (.a (aG .i64 i)))]
def MUs (R:Nat):List (Option SV):=aD 66 0 [(0,.o (.a (.sld 0 0 0 n c))),(4,.o (.a (.sld 1 0 0 r R))),(9,.o (.a (aG .i64 n))),(10,.o (.a (aG .i64 i)))]
end
def MDz:List (Option SV):=aD 66 0 [(4,.o (.a (.v (.slice none 0 0))))]
def MDs (r:Nat):List (Option SV):=aD 66 0 [(4,.o (.a (.slg 1 r)))]
def MRz:List (Option SV):=aD 66 0 [(2,.o (.a (.v (.slice none 0 0)))),(3,.o (.a (.v (.bool true))))]
def MRs (r:Nat):List (Option SV):=aD 66 0 [(2,.o (.a (.slg 1 r))),(3,.o (.a (.v (.bool true))))]
def MRd:List (Option SV):=aD 66 0 [(2,.o (.a (.v (.slice none 0 0)))),(3,.o (.a (.v (.bool false))))]
section
variable (l:List Lf)
theorem i0 (n c:Nat) (ty:TypeId):oI (M0 n c) (m0 l ty):=by delta oI;kernel_rfl
theorem iAz (n c:Nat) (ty:TypeId):oI (MAz n c) (m0 l ty):=by delta oI;kernel_rfl
theorem iBz (n c:Nat) (ty:TypeId) (x:Nd):oI (MBz n c) (mz l ty x):=by delta oI;kernel_rfl
theorem iAs (n c:Nat) (ty:TypeId) (vs:List Value) (lo:Nat) (hi:Option Nat) (i:Int) (r:Nat):oI (MAs n c i r) (ms l ty vs lo hi):=by delta oI;kernel_rfl
theorem iBs (n c:Nat) (ty:TypeId) (vs:List Value) (lo:Nat) (hi:Option Nat) (i:Int) (r:Nat) (k:Int) (x:Nd):oI (MBs n c i r k) (mx l ty vs lo hi x):=by delta oI;kernel_rfl
theorem iUs (n c:Nat) (ty:TypeId) (vs:List Value) (lo:Nat) (hi:Option Nat) (i:Int) (r:Nat) (R:Nat):oI (MUs n c i r R) (ms l ty vs lo hi):=by delta oI;kernel_rfl
theorem iDz (ty:TypeId):oI (MDz) (m0 l ty):=by delta oI;kernel_rfl
theorem iDs (ty:TypeId) (vs:List Value) (lo:Nat) (hi:Option Nat) (r:Nat):oI (MDs r) (ms l ty vs lo hi):=by delta oI;kernel_rfl
theorem iRz (ty:TypeId):oI (MRz) (m0 l ty):=by delta oI;kernel_rfl
theorem iRs (ty:TypeId) (vs:List Value) (lo:Nat) (hi:Option Nat) (r:Nat):oI (MRs r) (ms l ty vs lo hi):=by delta oI;kernel_rfl
theorem iRd (ty:TypeId) (vs:List Value) (lo:Nat) (hi:Option Nat) (x:Nd):oI (MRd) (mx l ty vs lo hi x):=by delta oI;kernel_rfl
theorem s0 (n c:Nat) (ty:TypeId):oX Γ 300 (eD 2 body) (aK fn [.o (.a (.sld 0 0 0 n c))]) [⟨false,ty,.prv (lvals l)⟩] [] .normal (M0 n c) (m0 l ty) []:=by delta oX;kernel_rfl
theorem a1 (n c:Nat) (ty:TypeId) (g:Nat→SV):oX Γ 300 A1 (fill g 0 (M0 n c )) (m0 l ty) [] .normal (MAz n c) (m0 l ty) []:=by delta oX;kernel_rfl
theorem otz (n c:Nat) (ty:TypeId) (g:Nat→SV):oX Γ 300 L (fill g 0 (MAz n c )) (m0 l ty) [(11,[.b false])] (.exit 0) (MDz) (m0 l ty) [decide ((0:Int)<n)=false]:=by delta oX;kernel_rfl
theorem ots (n c:Nat) (ty:TypeId) (vs:List Value) (lo:Nat) (hi:Option Nat) (i:Int) (r:Nat) (g:Nat→SV):oX Γ 300 L (fill g 0 (MAs n c i r)) (ms l ty vs lo hi) [(11,[.b false])] (.exit 0) (MDs r) (ms l ty vs lo hi) [decide (i<n)=false]:=by delta oX;kernel_rfl
theorem hdz (n c:Nat) (ty:TypeId) (g:Nat→SV):oX Γ 300 (eD 2 L) (fill g 0 (MAz n c )) (m0 l ty) [(11,[.b true])] .normal (MAz n c) (m0 l ty) [decide ((0:Int)<n)=true]:=by delta oX;kernel_rfl
theorem hds (n c:Nat) (ty:TypeId) (vs:List Value) (lo:Nat) (hi:Option Nat) (i:Int) (r:Nat) (g:Nat→SV):oX Γ 300 (eD 2 L) (fill g 0 (MAs n c i r)) (ms l ty vs lo hi) [(11,[.b true])] .normal (MAs n c i r) (ms l ty vs lo hi) [decide (i<n)=true]:=by delta oX;kernel_rfl
theorem lfz (n c:Nat) (ty:TypeId) (z:Lf) (x:Nd) (g:Nat→SV):oX Γ 300 (eD 3 X) (fill g 0 (MAz n c )) (m0 l ty) [(16,[.ds (cLf.enc z)]),(17,[.s (cNd.enc x)])] .normal (MBz n c) (mz l ty x) [0≤(0:Int),(0:Int)<n,0+aN 0 0 64+64≤(lvals l).length,SV.o (.g (bn (lvals l) (0+aN 0 0 64) 64))=cLf.enc z,LOk z,cNd.enc (bP z)=cNd.enc x]:=by delta oX;kernel_rfl
theorem lfs (n c:Nat) (ty:TypeId) (vs:List Value) (lo:Nat) (hi:Option Nat) (i:Int) (r:Nat) (z:Lf) (x:Nd) (g:Nat→SV):oX Γ 300 (eD 3 X) (fill g 0 (MAs n c i r)) (ms l ty vs lo hi) [(16,[.ds (cLf.enc z)]),(17,[.s (cNd.enc x)])] .normal (MBs n c i r r) (mx l ty vs lo hi x) [0≤i,i<n,0+aN 0 i 64+64≤(lvals l).length,SV.o (.g (bn (lvals l) (0+aN 0 i 64) 64))=cLf.enc z,LOk z,cNd.enc (bP z)=cNd.enc x]:=by delta oX;kernel_rfl
theorem inz (n c:Nat) (ty:TypeId) (x:Nd) (g:Nat→SV):oX Γ 300 LI (fill g 0 (MBz n c )) (mz l ty x) [] (.exit 2) (MBz n c) (mz l ty x) []:=by delta oX;kernel_rfl
theorem in0 (n c:Nat) (ty:TypeId) (vs:List Value) (lo:Nat) (hi:Option Nat) (i:Int) (r:Nat) (k:Int) (x:Nd) (g:Nat→SV):oX Γ 300 LI (fill g 0 (MBs n c i r k)) (mx l ty vs lo hi x) [(21,[.b false])] (.exit 2) (MBs n c i r k) (mx l ty vs lo hi x) [decide (k>0)=false]:=by delta oX;kernel_rfl
theorem inx (n c:Nat) (ty:TypeId) (vs:List Value) (lo:Nat) (hi:Option Nat) (i:Int) (r:Nat) (k:Int) (x:Nd) (k':Int) (y:B32) (g:Nat→SV):oX Γ 300 LI (fill g 0 (MBs n c i r k)) (mx l ty vs lo hi x) [(21,[.b true]),(27,[.n k']),(30,[.ds (ay.enc y)]),(31,[.s (aI.enc false)])] (.exit 2) (MBs n c i r k) (mx l ty vs lo hi x) [decide (k>0)=true,IntKind.i64.wrap (k-1)=k',0≤k',k'<r,0+(aN 0 k' 65+1)+32≤vs.length,SV.o (.g (bn vs (0+(aN 0 k' 65+1)) 32))=ay.enc y,BOk x.pre,BOk y,aI.enc (ltV x.pre y)=aI.enc false]:=by delta oX;kernel_rfl
theorem ing (n c:Nat) (ty:TypeId) (vs:List Value) (lo:Nat) (hi:Option Nat) (i:Int) (r:Nat) (k:Int) (x:Nd) (k':Int) (y:B32) (g:Nat→SV):oX Γ 300 LI (fill g 0 (MBs n c i r k)) (mx l ty vs lo hi x) [(21,[.b true]),(27,[.n k']),(30,[.ds (ay.enc y)]),(31,[.s (aI.enc true)]),(34,[.n k'])] .normal (MBs n c i r k') (mx l ty vs lo hi x) [decide (k>0)=true,IntKind.i64.wrap (k-1)=k',0≤k',k'<r,0+(aN 0 k' 65+1)+32≤vs.length,SV.o (.g (bn vs (0+(aN 0 k' 65+1)) 32))=ay.enc y,BOk x.pre,BOk y,aI.enc (ltV x.pre y)=aI.enc true,IntKind.i64.wrap (k-1)=k']:=by delta oX;kernel_rfl
theorem ez (n c:Nat) (ty:TypeId) (x:Nd) (g:Nat→SV):oX Γ 300 E (fill g 0 (MBz n c )) (mz l ty x) [] .normal (MBz n c) (mz l ty x) []:=by delta oX;kernel_rfl
theorem e0 (n c:Nat) (ty:TypeId) (vs:List Value) (lo:Nat) (hi:Option Nat) (i:Int) (r:Nat) (k:Int) (x:Nd) (g:Nat→SV):oX Γ 300 E (fill g 0 (MBs n c i r k)) (mx l ty vs lo hi x) [(36,[.b false])] .normal (MBs n c i r k) (mx l ty vs lo hi x) [decide (k>0)=false]:=by delta oX;kernel_rfl
theorem en (n c:Nat) (ty:TypeId) (vs:List Value) (lo:Nat) (hi:Option Nat) (i:Int) (r:Nat) (k:Int) (x:Nd) (k':Int) (y:B32) (g:Nat→SV):oX Γ 300 E (fill g 0 (MBs n c i r k)) (mx l ty vs lo hi x) [(36,[.b true]),(40,[.n k']),(43,[.ds (ay.enc y)]),(46,[.b false])] .normal (MBs n c i r k) (mx l ty vs lo hi x) [decide (k>0)=true,IntKind.i64.wrap (k-1)=k',0≤k',k'<r,0+(aN 0 k' 65+1)+32≤vs.length,SV.o (.g (bn vs (0+(aN 0 k' 65+1)) 32))=ay.enc y,eqL y.to x.pre.to=false]:=by delta oX;kernel_rfl
theorem ed (n c:Nat) (ty:TypeId) (vs:List Value) (lo:Nat) (hi:Option Nat) (i:Int) (r:Nat) (k:Int) (x:Nd) (k':Int) (y:B32) (g:Nat→SV):oX Γ 300 E (fill g 0 (MBs n c i r k)) (mx l ty vs lo hi x) [(36,[.b true]),(40,[.n k']),(43,[.ds (ay.enc y)]),(46,[.b true])] .ret (MRd) (mx l ty vs lo hi x) [decide (k>0)=true,IntKind.i64.wrap (k-1)=k',0≤k',k'<r,0+(aN 0 k' 65+1)+32≤vs.length,SV.o (.g (bn vs (0+(aN 0 k' 65+1)) 32))=ay.enc y,eqL y.to x.pre.to=true]:=by delta oX;kernel_rfl
theorem apz (n c:Nat) (ty:TypeId) (x:Nd) (g:Nat→SV):oN [0,3,1] Γ 100 R11 (fill g 0 (MBz n c )) (mz l ty x) [(50,[.dyn])] .normal (MBs n c 0 1 0) (mx l ty zn.vals 1 none x) [65=1*65,0+0+1*65≤65,0<1,Room Tryd.prog 33 1]:=by delta oN;kernel_rfl
theorem apg (n c:Nat) (ty:TypeId) (vs:List Value) (i:Int) (r:Nat) (k:Int) (x:Nd) (g:Nat→SV):oX Γ 300 R11 (fill g 0 (MBs n c i r k)) (mx l ty vs (r+1) none x) [(50,[.dyn]),(51,[.dyn])] .normal (MBs n c i (r+1) k) (mx l ty (vs++zn.vals) (r+1) none x) [65=1*65,0+0+1*65≤65,r*65=vs.length,r+1≤r+1,∀v∈zn.vals,v.oneCell'=true]:=by delta oX;kernel_rfl
theorem apr (n c:Nat) (ty:TypeId) (vs:List Value) (lo:Nat) (i:Int) (r:Nat) (k:Int) (x:Nd) (g:Nat→SV):oN [0,4,2] Γ 100 R11 (fill g 0 (MBs n c i r k)) (mx l ty vs lo (some (r+1)) x) [(50,[.dyn]),(51,[.dyn])] .normal (MBs n c i (r+1) k) (mx l ty (vs++zn.vals) (r+1) none x) [65=1*65,0+0+1*65≤65,r*65=vs.length,r+1≤r+1,Room Tryd.prog 33 (r+1)]:=by delta oN;kernel_rfl
theorem tt (n c:Nat) (ty:TypeId) (vs:List Value) (i:Int) (r:Nat) (k k1:Int) (R:Nat) (x:Nd) (g:Nat→SV):oN [0,1] Γ 100 T (fill g 0 (MTs n c i r k R)) (mx l ty vs R (some (R+1)) x) [(54,[.n k1])] .normal (MUs n c i r R) (ms l ty (putV (0+aN 0 k 65) x.vals (putV (0+iU R k1.toNat 0 65) (((vs.drop (0+iU R k.toNat 0 65)).take ((r-k.toNat)*65)).take (Nat.min (r-k.toNat) (r-k1.toNat)*65)) vs)) R (some (R+1))) [IntKind.i64.wrap (k+1)=k1,0≤k1,k1≤r,(r:Int)≤R,0≤k,k≤r,(r:Int)≤R,(0+iU R k.toNat 0 65)+(r-k.toNat)*65≤vs.length,(0+iU R k1.toNat 0 65)+Nat.min (r-k.toNat) (r-k1.toNat)*65≤vs.length,∀v∈((vs.drop (0+iU R k.toNat 0 65)).take ((r-k.toNat)*65)),v.oneCell'=true,0≤k,k<r,0+aN 0 k 65+65≤(putV (0+iU R k1.toNat 0 65) (((vs.drop (0+iU R k.toNat 0 65)).take ((r-k.toNat)*65)).take (Nat.min (r-k.toNat) (r-k1.toNat)*65)) vs).length]:=by delta oN;kernel_rfl
theorem nx (n c:Nat) (ty:TypeId) (vs:List Value) (lo:Nat) (hi:Option Nat) (i:Int) (r:Nat) (i':Int) (g:Nat→SV):oX Γ 300 R14 (fill g 0 (MAs n c i r)) (ms l ty vs lo hi) [(64,[.n i'])] .normal (MAs n c i' r) (ms l ty vs lo hi) [IntKind.i64.wrap (i+1)=i']:=by delta oX;kernel_rfl
theorem fz (ty:TypeId) (g:Nat→SV):oX Γ 300 D (fill g 0 (MDz )) (m0 l ty) [] .ret (MRz) (m0 l ty) []:=by delta oX;kernel_rfl
theorem fs (ty:TypeId) (vs:List Value) (lo:Nat) (hi:Option Nat) (r:Nat) (g:Nat→SV):oX Γ 300 D (fill g 0 (MDs r)) (ms l ty vs lo hi) [] .ret (MRs r) (ms l ty vs lo hi) []:=by delta oX;kernel_rfl
theorem zz (ty:TypeId) (g:Nat→SV):eRes tys (fill g 0 (MRz )) (fun k=>(m0 l ty)[k]?) fn.results.toList=some [.a (.v (.slice none 0 0)),.a (.v (.bool true))]:=by kernel_rfl
theorem zs (ty:TypeId) (vs:List Value) (lo:Nat) (hi:Option Nat) (r:Nat) (g:Nat→SV):eRes tys (fill g 0 (MRs r)) (fun k=>(ms l ty vs lo hi)[k]?) fn.results.toList=some [.a (.slg 1 r),.a (.v (.bool true))]:=by kernel_rfl
theorem zd (ty:TypeId) (vs:List Value) (lo:Nat) (hi:Option Nat) (x:Nd) (g:Nat→SV):eRes tys (fill g 0 (MRd )) (fun k=>(mx l ty vs lo hi x)[k]?) fn.results.toList=some [.a (.v (.slice none 0 0)),.a (.v (.bool false))]:=by kernel_rfl
end
theorem setT (n c:Nat) (i:Int) (r:Nat) (k:Int) (R:Nat) (g:Nat→SV):(fill g 0 (MBs n c i r k)).set 4 (.o (.a (.sld 1 0 0 r R)))=fill g 0 (MTs n c i r k R):=by kernel_rfl
theorem setU (n c:Nat) (i:Int) (r:Nat) (R:Nat) (g:Nat→SV):(fill g 0 (MUs n c i r R)).set 4 (.o (.a (.slg 1 r)))=fill g 0 (MAs n c i r):=by kernel_rfl
end rnd
def insK (out:List Nd) (x:Nd):Nat→Nat
 | 0=>0
 | k+1=>bif ltV x.pre (out.getD k zn).pre then insK out x k else k+1
def insV (out:List Nd) (x:Nd):List Nd:=out.take (insK out x out.length)++x::out.drop (insK out x out.length)
def dupK (out:List Nd) (x:Nd):Nat→Bool
 | 0=>false
 | k+1=>eqL (out.getD k zn).pre.to x.pre.to
def dupV (out:List Nd) (x:Nd):Bool:=dupK out x (insK out x out.length)
noncomputable def dU (l:List Lf):Nat→List Nd
 | 0=>[]
 | i+1=>insV (dU l i) (bP (l.getD i zl))
noncomputable def fK (l:List Lf):Nat→Bool
 | 0=>false
 | i+1=>fK l i||dupV (dU l i) (bP (l.getD i zl))
theorem insK_le (out:List Nd) (x:Nd):∀k,insK out x k≤k
 | 0=>Nat.le_refl _
 | k+1=>by
  unfold insK
  cases ltV x.pre (out.getD k zn).pre
  ·exact Nat.le_refl _
  ·exact Nat.le_succ_of_le (insK_le out x k)
theorem insV_len (out:List Nd) (x:Nd):(insV out x).length=out.length+1:=by
 have:=insK_le out x out.length
 unfold insV
 rw[List.length_append,List.length_take,List.length_cons,List.length_drop]
 omega
theorem pE (l:List Lf):∀i,(dU l i).length=i
 | 0=>rfl
 | i+1=>by rw[dU,insV_len,pE l i]
theorem rndD_mono {l:List Lf} {i:Nat} (h:fK l i=true):∀{n},i≤n→fK l n=true
 | 0,hi=>by
        obtain rfl:i=0:=by omega
        exact h
 | n+1,hi=>by
  rcases Nat.lt_or_ge i (n+1) with h1 | h1
  ·rw[fK,rndD_mono h (by omega),Bool.true_or]
  ·obtain rfl:i=n+1:=by omega
   exact h
theorem mem_insV {out:List Nd} {x y:Nd} (h:y∈insV out x):y=x∨y∈out:=by
 unfold insV at h
 rcases List.mem_append.1 h with h | h
 ·exact .inr (List.mem_of_mem_take h)
 ·rcases List.mem_cons.1 h with h | h
  ·exact .inl h
  ·exact .inr (List.mem_of_mem_drop h)
theorem leaf_ok {z:Lf} (h:LOk z):BOk (bP z).pre:=h.1
theorem rndA_ok {l:List Lf} (h:bI l):∀i,i≤l.length→∀x∈dU l i,BOk x.pre
 | 0,_,x,hx=>by cases hx
 | i+1,hi,x,hx=>by
  rcases mem_insV hx with rfl | hx
  ·exact leaf_ok (h.at (by omega))
  ·exact rndA_ok h i (by omega) x hx
theorem putN (L ys:List Nd) (a:Nat):putV (a*65) (ah ys) (ah L)=ah (L.take a++(ys++L.drop (a+ys.length))):=by
 unfold putV
 rw[qI,bH,←Nat.add_mul,qJ,ko,ko]
theorem ins_cp (out:List Nd) (k R:Nat) (hk:k≤out.length) (hR:out.length+1≤R):
  putV (0+iU R (k+1) 0 65) ((((ah (out++[zn])).drop (0+iU R k 0 65)).take ((out.length+1-k)*65)).take (Nat.min (out.length+1-k) (out.length+1-(k+1))*65)) (ah (out++[zn]))=ah ((out++[zn]).take (k+1)++out.drop k):=by
 have hm:Nat.min (out.length+1-k) (out.length+1-(k+1))=out.length-k:=by
  show min _ _=_
  omega
 have ha:0+iU R k 0 65=k*65:=by unfold iU;rw[if_neg (by omega)];omega
 rw[hm,ha,qJ,qI,qI]
 have hl:(out++[zn]).length=out.length+1:=by simp
 have e1:(((out++[zn]).drop k).take (out.length+1-k)).take (out.length-k)=out.drop k:=by
  rw[List.take_take,List.drop_append_of_le_length hk,List.take_append_of_le_length (by rw[List.length_drop];omega),List.take_of_length_le (by rw[List.length_drop];omega)]
 rw[e1]
 by_cases hR2:R=k+1
 ·obtain rfl:k=out.length:=by omega
  have ha1:0+iU R (out.length+1) 0 65=0*65:=by unfold iU;rw[if_pos hR2]
  rw[ha1,putN,List.take_zero,List.nil_append,List.drop_length,List.length_nil,List.nil_append,List.drop_zero,List.append_nil,List.take_of_length_le (by omega)]
 ·have ha1:0+iU R (k+1) 0 65=(k+1)*65:=by unfold iU;rw[if_neg hR2];omega
  rw[ha1,putN,List.drop_eq_nil_of_le (show(out++[zn]).length≤k+1+(out.drop k).length by rw[hl,List.length_drop];omega),List.append_nil]
theorem ins_put (out:List Nd) (x:Nd) (k R:Nat) (hk:k≤out.length) (hR:out.length+1≤R):
  putV (0+aN 0 (k:Int) 65) x.vals (ah ((out++[zn]).take (k+1)++out.drop k))=ah (out.take k++x::out.drop k):=by
 have hl:(out++[zn]).length=out.length+1:=by simp
 have ht:((out++[zn]).take (k+1)).length=k+1:=by rw[List.length_take];omega
 rw[offs,←kQ,putN,List.take_append_of_le_length (by omega),List.take_take,show min k (k+1)=k by omega,List.take_append_of_le_length hk]
 rw[List.drop_append,List.drop_eq_nil_of_le (by rw[ht];exact Nat.le_refl _),List.nil_append,ht,show k+[x].length-(k+1)=0 from Nat.sub_self _,List.drop_zero]
 rfl
namespace rnd
section
variable (l:List Lf) (n c:Nat) (ty:TypeId) (out:List Nd) (x:Nd) (i:Int)
theorem tail (k:Nat) (hk:k≤out.length) (hb:out.length<4000000) (g:Nat→SV) {Post:Ex→List SV→List Blk→Prop} (h:∀g R,out.length+1≤R→Post .normal (fill g 0 (MUs n c i (out.length+1) R)) (ms l ty (ah (out.take k++x::out.drop k)) R (some (R+1)))):
  aF Tryd.prog GT 1 T (fill g 0 (MBs n c i (out.length+1) k)) (mx l ty (ah (out++[zn])) (out.length+1) none x) Post:=by
 refine Runs.nameRoom 4 1 (n:=out.length+1) (own:=true) (ty:=33) (s:=65) (vs:=ah (out++[zn])) (lo:=out.length+1) (hi:=none) rfl rfl fun R hR hle=> ?_
 have hl:(ah (out++[zn])).length=(out.length+1)*65:=by rw[bH];simp
 rw[setT n c i (out.length+1) k R g]
 have hcp:=ins_cp out k R hk hR
 have hput:=ins_put out x k R hk hR
 have ha:0+iU R k 0 65=k*65:=by unfold iU;rw[if_neg (by omega)];omega
 have ha1:0+iU R (k+1) 0 65+Nat.min (out.length+1-k) (out.length+1-(k+1))*65≤(out.length+1)*65:=by
  have hm:Nat.min (out.length+1-k) (out.length+1-(k+1))=out.length-k:=by
   show min _ _=_
   omega
  rw[hm]
  unfold iU
  split
  ·omega
  ·omega
 refine Runs.aP aj mixed [0,1] (tt l n c ty (ah (out++[zn])) i (out.length+1) k ((k+1:Nat):Int) R x g) ⟨by rw[IntKind.wrap_i64];omega,by omega,by omega,by omega,by omega,by omega,by omega,?_,?_,?_,by omega,by omega,?_,trivial⟩ (iUs l n c ty _ _ _ _ _ _) rfl fun g=> ?_
 ·rw[hl]
  show 0+iU R k 0 65+(out.length+1-k)*65≤_
  rw[ha]
  omega
 ·rw[hl]
  exact ha1
 ·intro v hv
  exact oneL _ v (List.mem_of_mem_drop (List.mem_of_mem_take hv))
 ·show 0+aN 0 (k:Int) 65+65≤(putV (0+iU R (k+1) 0 65) ((((ah (out++[zn])).drop (0+iU R k 0 65)).take ((out.length+1-k)*65)).take (Nat.min (out.length+1-k) (out.length+1-(k+1))*65)) (ah (out++[zn]))).length
  rw[hcp,offs,bH,List.length_append,List.length_take,List.length_drop,List.length_append,List.length_singleton]
  omega
 ·have e:putV (0+aN 0 (k:Int) 65) x.vals (putV (0+iU R (k+1) 0 65) ((((ah (out++[zn])).drop (0+iU R k 0 65)).take ((out.length+1-k)*65)).take (Nat.min (out.length+1-k) (out.length+1-(k+1))*65)) (ah (out++[zn])))=ah (out.take k++x::out.drop k):=by rw[hcp,hput]
  have:=h g R hR
  rw[←e] at this
  exact this
theorem append (k:Nat) (hk:k≤out.length) (h1:1≤out.length) (hb:out.length<4000000) (g:Nat→SV) {Post:Ex→List SV→List Blk→Prop} (h:∀g R,out.length+1≤R→Post .normal (fill g 0 (MUs n c i (out.length+1) R)) (ms l ty (ah (out.take k++x::out.drop k)) R (some (R+1)))):
  aF Tryd.prog GT 1 (.seq R11 T) (fill g 0 (MBs n c i out.length k)) (mx l ty (ah out) out.length none x) Post:=by
 have hl:(ah out).length=out.length*65:=bH out
 have e:ah out++zn.vals=ah (out++[zn]):=by rw[ko,kQ]
 refine Runs.mh 1 (out.length+1) (own:=true) (ty:=33) (s:=65) (vs:=ah out) (lo:=out.length) rfl ?_ ?_
 ·refine Runs.seq (Runs.au aj mixed (apg l n c ty (ah out) i out.length k x g) ⟨rfl,by omega,by omega,Nat.le_refl _,oneV zn,trivial⟩ (iBs l n c ty _ _ _ _ _ _ _) rfl fun g=> ?_)
  rw[e]
  exact tail l n c ty out x i k hk hb g h
 ·refine Runs.seq (Runs.aP aj mixed [0,4,2] (apr l n c ty (ah out) out.length i out.length k x g) ⟨rfl,by omega,by omega,Nat.le_refl _,mY _ (by omega),trivial⟩ (iBs l n c ty _ _ _ _ _ _ _) rfl fun g=> ?_)
  rw[e]
  exact tail l n c ty out x i k hk hb g h
theorem turnE (k:Nat) (hk:k≤out.length) (h1:1≤out.length) (hb:out.length<4000000) (g:Nat→SV) {Post:Ex→List SV→List Blk→Prop} (hd:dupK out x k=true→∀g,Post .ret (fill g 0 (MRd)) (mx l ty (ah out) out.length none x)) (h:dupK out x k=false→∀g R,out.length+1≤R→Post .normal (fill g 0 (MUs n c i (out.length+1) R)) (ms l ty (ah (out.take k++x::out.drop k)) R (some (R+1)))):
  aF Tryd.prog GT 1 (.seq E (.seq R11 T)) (fill g 0 (MBs n c i out.length k)) (mx l ty (ah out) out.length none x) Post:=by
 cases k with
 | zero=>exact Runs.seq (Runs.au aj mixed (e0 l n c ty _ _ _ i out.length _ x g) ⟨decide_eq_false (by omega),trivial⟩ (iBs l n c ty _ _ _ _ _ _ _) rfl fun g=>append l n c ty out x i 0 hk h1 hb g (h rfl))
 | succ k=>
  obtain⟨a1,a2⟩:=ql out rfl (show k<out.length by omega)
  have hw:IntKind.i64.wrap (((k+1:Nat):Int)-1)=(k:Int):=by rw[IntKind.wrap_i64];omega
  cases hq:eqL (out.getD k zn).pre.to x.pre.to with
  | false=>exact Runs.seq (Runs.au aj mixed (en l n c ty _ _ _ i out.length _ x k (out.getD k zn).pre g) ⟨decide_eq_true (by omega),hw,by omega,by omega,a1,a2,hq,trivial⟩ (iBs l n c ty _ _ _ _ _ _ _) rfl fun g=>append l n c ty out x i (k+1) hk h1 hb g (h hq))
  | true=>exact Runs.seq (Runs.au aj mixed (ed l n c ty _ _ _ i out.length _ x k (out.getD k zn).pre g) ⟨decide_eq_true (by omega),hw,by omega,by omega,a1,a2,hq,trivial⟩ (iRd l ty _ _ _ _) rfl fun g=>hd hq g)
theorem inner (h1:1≤out.length) (hb:out.length<4000000) (hx:BOk x.pre) (ho:∀y∈out,BOk y.pre) (g:Nat→SV) {Post:Ex→List SV→List Blk→Prop} (hd:dupV out x=true→∀g,Post .ret (fill g 0 (MRd)) (mx l ty (ah out) out.length none x)) (h:dupV out x=false→∀g R,out.length+1≤R→Post .normal (fill g 0 (MUs n c i (out.length+1) R)) (ms l ty (ah (insV out x)) R (some (R+1)))):
  aF Tryd.prog GT 1 (bM 3 X) (fill g 0 (MBs n c i out.length out.length)) (mx l ty (ah out) out.length none x) Post:=by
 rw[suf_X]
 unfold dupV at hd h
 unfold insV at h
 have fin:∀(k:Nat) (g:Nat→SV),k≤out.length→insK out x out.length=k→aF Tryd.prog GT 1 (.seq E (.seq R11 T)) (fill g 0 (MBs n c i out.length k)) (mx l ty (ah out) out.length none x) Post:=fun k g hk hv=>by
  rw[hv] at hd h
  exact turnE l n c ty out x i k hk h1 hb g hd h
 refine Runs.seq (Runs.block ?_)
 refine Runs.dA (fun(k:Nat)=>MBs n c i out.length k) (fun _=>mx l ty (ah out) out.length none x) (fun k=>k≤out.length∧insK out x out.length=insK out x k) (fun k=>k) ?_ out.length ⟨Nat.le_refl _,rfl⟩ g
 rintro k g ⟨hk,hv⟩
 cases k with
 | zero=>
  refine Runs.au aj mixed (in0 l n c ty _ _ _ i out.length _ x g) ⟨decide_eq_false (by omega),trivial⟩ (iBs l n c ty _ _ _ _ _ _ _) rfl fun g=> ?_
  exact fin 0 g hk (by rw[hv];rfl)
 | succ k=>
  obtain⟨a1,a2⟩:=ql out rfl (show k<out.length by omega)
  have hw:IntKind.i64.wrap (((k+1:Nat):Int)-1)=(k:Int):=by rw[IntKind.wrap_i64];omega
  have hy:=ho (out.getD k zn) (dV (by omega) _)
  cases hq:ltV x.pre (out.getD k zn).pre with
  | false=>
   refine Runs.au aj mixed (inx l n c ty _ _ _ i out.length _ x k (out.getD k zn).pre g) ⟨decide_eq_true (by omega),hw,by omega,by omega,a1,a2,hx,hy,by rw[hq],trivial⟩ (iBs l n c ty _ _ _ _ _ _ _) rfl fun g=> ?_
   exact fin (k+1) g hk (by rw[hv,insK,hq,cond_false])
  | true=>
   refine Runs.au aj mixed (ing l n c ty _ _ _ i out.length _ x k (out.getD k zn).pre g) ⟨decide_eq_true (by omega),hw,by omega,by omega,a1,a2,hx,hy,by rw[hq],hw,trivial⟩ (iBs l n c ty _ _ _ _ _ _ _) rfl fun g=> ?_
   exact⟨k,g,rfl,rfl,⟨by omega,by rw[hv,insK,hq,cond_true]⟩,by omega⟩
end
def MA (n c:Nat):Nat→List (Option SV)
 | 0=>MAz n c
 | i+1=>MAs n c ((i+1:Nat):Int) (i+1)
noncomputable def mA (l:List Lf) (ty:TypeId):Nat→List Blk
 | 0=>m0 l ty
 | i+1=>ms l ty (ah (dU l (i+1))) (i+1) none
noncomputable def Q (l:List Lf) (n:Nat) (r:SV) (m:List Blk):Prop:=
 (fK l n=true∧bJ (.t [.a (.v (.slice none 0 0)),.a (.v (.bool false))]) .none r m)∨(fK l n=false∧n=0∧bJ (.t [.a (.v (.slice none 0 0)),.a (.v (.bool true))]) .none r m)∨
  (fK l n=false∧0<n∧bJ (.t [.a (.slg 0 n),.a (.v (.bool true))]) (.new 33 (.grv 65 (ah (dU l n)) n none)) r m)
theorem run (l:List Lf) (n c:Nat) (ty:TypeId) (hn:l.length=n) (hm:n≤4000000) (hok:bI l):aF Tryd.prog GT 1 body (aK fn [.o (.a (.sld 0 0 0 n c))]) [⟨false,ty,.prv (lvals l)⟩] (aH tys fn (Q l n)):=by
 have hl:(lvals l).length=n*64:=by rw[←hn];exact bU l
 refine Runs.dz aj mixed 2 (s0 l n c ty) trivial (i0 l n c ty) rfl fun g=> ?_
 rw[dJ]
 refine Runs.seq (Runs.seq (Runs.au aj mixed (a1 l n c ty g) trivial (iAz l n c ty) rfl fun g=> ?_))
 refine Runs.block ?_
 refine Runs.dA (fun(i:Nat)=>MA n c i) (fun i=>mA l ty i) (fun i=>i≤n∧fK l i=false) (fun i=>n-i) ?_ 0 ⟨Nat.zero_le _,rfl⟩ g
 rintro i g ⟨hi,hd⟩
 rcases Nat.lt_or_ge i n with h | h
 ·have o64:=offs i 64
  have hb:i*64+64≤n*64:=by have:=Nat.mul_le_mul_right 64 (show i+1≤n by omega);omega
  have hz:=hok.at (show i<l.length by omega)
  cases i with
  | zero=>
   refine Runs.dz aj mixed 2 (hdz l n c ty g) ⟨decide_eq_true (by omega),trivial⟩ (iAz l n c ty) rfl fun g=> ?_
   rw[suf_L]
   refine Runs.seq (Runs.block ?_)
   refine Runs.dz aj mixed 3 (lfz l n c ty (l.getD 0 zl) (bP (l.getD 0 zl)) g) ⟨by omega,by omega,by show 0+aN 0 ((0:Nat):Int) 64+64≤_;rw[o64];omega,by show SV.o (.g (bn (lvals l) (0+aN 0 ((0:Nat):Int) 64) 64))=_;rw[o64];exact ld_lf l (by omega),hz,rfl,trivial⟩ (iBz l n c ty _) rfl fun g=> ?_
   rw[suf_X]
   refine Runs.seq (Runs.block ?_)
   refine Runs.dA (fun(_:Unit)=>MBz n c) (fun _=>mz l ty (bP (l.getD 0 zl))) (fun _=>True) (fun _=>0) ?_ () trivial g
   rintro _ g _
   refine Runs.au aj mixed (inz l n c ty _ g) trivial (iBz l n c ty _) rfl fun g=> ?_
   show aF _ _ _ _ _ _ _
   refine Runs.seq (Runs.au aj mixed (ez l n c ty _ g) trivial (iBz l n c ty _) rfl fun g=> ?_)
   refine Runs.seq (Runs.aP aj mixed [0,3,1] (apz l n c ty _ g) ⟨rfl,by omega,by omega,mY 1 (by omega),trivial⟩ (iBs l n c ty _ _ _ _ _ _ _) rfl fun g=> ?_)
   refine tail l n c ty [] (bP (l.getD 0 zl)) 0 0 (Nat.le_refl _) (by simp) g fun g R hR=> ?_
   show aF _ _ _ R14 _ _ _
   refine Runs.hideRoom 4 1 1 (n:=1) (R:=R) (own:=true) (ty:=33) (s:=65) rfl rfl (by simpa using hR) ?_
   show aF _ _ _ R14 ((fill g 0 (MUs n c 0 1 R)).set 4 _) _ _
   rw[setU n c 0 1 R g]
   refine Runs.au aj mixed (nx l n c ty _ _ _ 0 1 1 g) ⟨by rw[IntKind.wrap_i64];rfl,trivial⟩ (iAs l n c ty _ 1 none _ _) rfl fun g=> ?_
   exact⟨1,g,rfl,rfl,⟨by omega,rfl⟩,by omega⟩
  | succ i=>
   have hlen:=pE l (i+1)
   have hoks:=rndA_ok hok (i+1) (by omega)
   refine Runs.dz aj mixed 2 (hds l n c ty _ _ _ _ _ g) ⟨decide_eq_true (by omega),trivial⟩ (iAs l n c ty _ _ _ _ _) rfl fun g=> ?_
   rw[suf_L]
   refine Runs.seq (Runs.block ?_)
   refine Runs.dz aj mixed 3 (lfs l n c ty _ _ _ _ _ (l.getD (i+1) zl) (bP (l.getD (i+1) zl)) g) ⟨by omega,by omega,by rw[o64];omega,by rw[o64];exact ld_lf l (by omega),hz,rfl,trivial⟩ (iBs l n c ty _ _ _ _ _ _ _) rfl fun g=> ?_
   have hx:=leaf_ok hz
   have hA:dU l (i+1+1)=insV (dU l (i+1)) (bP (l.getD (i+1) zl)):=rfl
   have hD:fK l (i+1+1)=(fK l (i+1)||dupV (dU l (i+1)) (bP (l.getD (i+1) zl))):=rfl
   rw[hd,Bool.false_or] at hD
   have t:=fun PP=>inner l n c ty (dU l (i+1)) (bP (l.getD (i+1) zl)) ((i+1:Nat):Int) (by omega) (by omega) hx hoks g (Post:=PP)
   rw[hlen] at t
   refine t _ (fun hq g=> ?_) (fun hq g R hR=> ?_)
   ·show aH _ _ _ _ _ _
    exact aH.ret (zd l ty _ _ _ _ g) (.inl ⟨rndD_mono (hD.trans hq) (by omega),rfl⟩)
   ·show aF _ _ _ R14 _ _ _
    refine Runs.hideRoom 4 1 (i+1+1) (n:=i+1+1) (R:=R) (own:=true) (ty:=33) (s:=65) rfl rfl hR ?_
    show aF _ _ _ R14 ((fill g 0 (MUs n c ((i+1:Nat):Int) (i+1+1) R)).set 4 _) _ _
    rw[setU n c _ _ R g,←hA]
    refine Runs.au aj mixed (nx l n c ty _ _ _ _ (i+1+1) ((i+1+1:Nat):Int) g) ⟨by rw[IntKind.wrap_i64];omega,trivial⟩ (iAs l n c ty _ (i+1+1) none _ _) rfl fun g=> ?_
    exact⟨i+1+1,g,rfl,rfl,⟨by omega,hD.trans hq⟩,by omega⟩
 ·obtain rfl:i=n:=by omega
  cases i with
  | zero=>
   refine Runs.au aj mixed (otz l 0 c ty g) ⟨decide_eq_false (by omega),trivial⟩ (iDz l ty) rfl fun g=> ?_
   show aF _ _ _ _ _ _ _
   exact Runs.au aj mixed (fz l ty g) trivial (iRz l ty) rfl fun g=>aH.ret (zz l ty g) (.inr (.inl ⟨hd,rfl,rfl⟩))
  | succ i=>
   refine Runs.au aj mixed (ots l (i+1) c ty _ _ _ _ _ g) ⟨decide_eq_false (by omega),trivial⟩ (iDs l ty _ _ _ _) rfl fun g=> ?_
   show aF _ _ _ _ _ _ _
   exact Runs.au aj mixed (fs l ty _ _ _ _ g) trivial (iRs l ty _ _ _ _) rfl fun g=>aH.ret (zs l ty _ _ _ _ g) (.inr (.inr ⟨hd,by omega,1,rfl,rfl⟩))
theorem nil_out (a:Option Addr):gK Γ tys fn 300 [.o (.a (.v (.slice a 0 0)))] []=some (.t [.a (.v (.slice none 0 0)),.a (.v (.bool true))],[]):=by kernel_rfl
noncomputable def specE:List aU→Option (SV × dH × Cst)
 | [.winv _ vs n ty]=>some (.t [.a (.v (.slice none 0 0)),.a (.v (.bool false))],.none,[vs=lvals (av vs),(av vs).length=n,n≤4000000,bI (av vs),fK (av vs) n=true])
 | _=>none
noncomputable def jX:List aU→Option (SV × dH × Cst)
 | [.winv _ vs n ty]=>some (.t [.a (.v (.slice none 0 0)),.a (.v (.bool true))],.none,[vs=lvals (av vs),(av vs).length=n,n=0])
 | [.val (.o (.a (.v (.slice a 0 0))))]=>some (.t [.a (.v (.slice none 0 0)),.a (.v (.bool true))],.none,[])
 | _=>none
noncomputable def iW:List aU→Option (SV × dH × Cst)
 | [.winv _ vs n ty]=>some (.t [.a (.slg 0 n),.a (.v (.bool true))],.new 33 (.grv 65 (ah (dU (av vs) n)) n none),[vs=lvals (av vs),(av vs).length=n,n≤4000000,bI (av vs),fK (av vs) n=false,0<n])
 | _=>none
noncomputable def conE:Con Tryd.prog GT:=Con.parts aj 24 fn Tryd.func24 (by kernel_rfl) (c:=body) (by kernel_rfl) [.winv 64] specE
 (fun ps r e p h hp=>by
  unfold specE at h
  split at h<;>cases h
  exact⟨rfl,fun b hb=>by simp only[bf,aU.blk,List.append_nil,List.nil_append,List.mem_singleton] at hb;rw[hb]⟩)
 (fun ps r e p cap h hp hi=>by
  unfold specE at h
  split at h<;>cases h
  rename_i s vs n ty
  obtain⟨p1,p2,p3,p4,p5,_⟩:=hp
  have q:=run (av vs) n (cap 0) ty p2 p3 p4
  rw[←p1] at q
  refine Runs.mono q fun e t m=>jJ fun r m h=> ?_
  rcases h with⟨_,h⟩ | ⟨h',_⟩ | ⟨h',_⟩
  ·exact h
  ·rw[p5] at h';cases h'
  ·rw[p5] at h';cases h')
noncomputable def conZ:Con Tryd.prog GT:=Con.parts aj 24 fn Tryd.func24 (by kernel_rfl) (c:=body) (by kernel_rfl) [.winv 64] jX
 (fun ps r e p h hp=>by
  unfold jX at h
  split at h<;>cases h
  ·exact⟨rfl,fun b hb=>by simp only[bf,aU.blk,List.append_nil,List.nil_append,List.mem_singleton] at hb;rw[hb]⟩
  ·exact⟨rfl,fun b hb=>by simp[bf,aU.blk] at hb⟩)
 (fun ps r e p cap h hp hi=>by
  unfold jX at h
  split at h<;>cases h
  ·rename_i s vs n ty
   obtain⟨p1,p2,p3,_⟩:=hp
   subst p3
   have h0:av vs=[]:=List.eq_nil_of_length_eq_zero p2
   have q:=run (av vs) 0 (cap 0) ty p2 (by omega) (by rw[h0];intro x hx;cases hx)
   rw[←p1] at q
   refine Runs.mono q fun e t m=>jJ fun r m h=> ?_
   rcases h with⟨h',_⟩ | ⟨_,_,h⟩ | ⟨_,h',_⟩
   ·cases h'
   ·exact h
   ·omega
  ·exact mq aj mixed (by kernel_rfl) (nil_out _) trivial)
noncomputable def conP:Con Tryd.prog GT:=Con.parts aj 24 fn Tryd.func24 (by kernel_rfl) (c:=body) (by kernel_rfl) [.winv 64] iW
 (fun ps r e p h hp=>by
  unfold iW at h
  split at h<;>cases h
  exact⟨rfl,fun b hb=>by simp only[bf,aU.blk,List.append_nil,List.nil_append,List.mem_singleton] at hb;rw[hb]⟩)
 (fun ps r e p cap h hp hi=>by
  unfold iW at h
  split at h<;>cases h
  rename_i s vs n ty
  obtain⟨p1,p2,p3,p4,p5,p6,_⟩:=hp
  have q:=run (av vs) n (cap 0) ty p2 p3 p4
  rw[←p1] at q
  refine Runs.mono q fun e t m=>jJ fun r m h=> ?_
  rcases h with⟨h',_⟩ | ⟨_,h',_⟩ | ⟨_,_,h⟩
  ·rw[p5] at h';cases h'
  ·omega
  ·exact h)
end rnd
theorem uq {z:Lf} (h:LOk z):NOk (bP z):=⟨h.1,sha_ok _⟩
theorem iV {l:List Lf} (h:bI l):bg (bq l):=fun x hx=>by
 unfold bq at hx
 obtain⟨z,hz,rfl⟩:=List.mem_map.1 ((mQ _).mem_iff.1 hx)
 exact uq (h z hz)
theorem pz {l:List Lf} (h:bI l):∀i,i≤l.length→bg (dU l i)
 | 0,_,x,hx=>by cases hx
 | i+1,hi,x,hx=>by
  rcases mem_insV hx with rfl | hx
  ·exact uq (h.at (by omega))
  ·exact pz h i (by omega) x hx
theorem dtl {l:List Lf} {n:Nat} (hn:l.length=n):((lvals l).drop (0+0)).take (n*64)=lvals l:=by
 rw[Nat.add_zero,List.drop_zero,List.take_of_length_le (by rw[bU];omega)]
theorem lfN_two {l:List Lf} (n:Nat) (hn:l.length=n):((lvals l).drop (0+0)).take (n*64)=lvals (av (((lvals l).drop (0+0)).take (n*64)))∧av (((lvals l).drop (0+0)).take (n*64))=l:=by
 rw[dtl hn,bW];exact⟨rfl,rfl⟩
noncomputable def rofT (H:Nd→Nd→B32) (E:B32) (S:Nd→B32) (l:List Lf):B32 × Int:=bO H E S (bq l)
noncomputable def gM (H:Nd→Nd→B32) (E:B32) (S:Nd→B32) (l:List Lf):B32 × Int:=bif fK l l.length then (zB,1) else bO H E S (dU l l.length)
namespace rrof
noncomputable abbrev fn:=Tryd.f18
noncomputable def body:Code:=d9 fn
noncomputable def ΓE:Cons Tryd.prog GT:=[rnd.conE]
section
variable (H:Nd→Nd→B32) (hH:H=hV) (E:B32) (hE':E=hE) (S:Nd→B32) (hS':S=hS)
noncomputable def ΓZ:Cons Tryd.prog GT:=[rnd.conZ,rrt.con H hH E hE' S hS' ]
noncomputable def ΓP:Cons Tryd.prog GT:=[rnd.conP,rrt.con H hH E hE' S hS' ]
end
def memR (l:List Lf) (ty:TypeId) (z:B32):List Blk:=[⟨false,ty,.prv (lvals l)⟩,⟨true,24,.lit (ay.row z)⟩]
def memN (z:B32):List Blk:=[⟨true,24,.lit (ay.row z)⟩]
def MR (e:Int):List (Option SV):=aD 18 0 [(2,.o (.a (.ptr 1 0))),(3,.o (.a (aG .i64 e)))]
def MN (e:Int):List (Option SV):=aD 18 0 [(2,.o (.a (.ptr 0 0))),(3,.o (.a (aG .i64 e)))]
theorem idR (l:List Lf) (ty:TypeId) (z:B32) (e:Int):oI (MR e) (memR l ty z):=by delta oI;kernel_rfl
theorem idN (z:B32) (e:Int):oI (MN e) (memN z):=by delta oI;kernel_rfl
theorem zr (l:List Lf) (ty:TypeId) (z:B32) (e:Int) (g:Nat→SV):eRes tys (fill g 0 (MR e)) (fun k=>(memR l ty z)[k]?) fn.results.toList=some [.g (ay.row z),.a (aG .i64 e)]:=by kernel_rfl
theorem zn (z:B32) (e:Int) (g:Nat→SV):eRes tys (fill g 0 (MN e)) (fun k=>(memN z)[k]?) fn.results.toList=some [.g (ay.row z),.a (aG .i64 e)]:=by kernel_rfl
theorem sE (l:List Lf) (n c:Nat) (ty:TypeId):oN [0,1] ΓE 100 body (aK fn [.o (.a (.sld 0 0 0 n c))]) [⟨false,ty,.prv (lvals l)⟩] [] .ret (MR 1) (memR l ty zB) [0+0+n*64≤(lvals l).length,n≤c,((lvals l).drop (0+0)).take (n*64)=lvals (av (((lvals l).drop (0+0)).take (n*64))),(av (((lvals l).drop (0+0)).take (n*64))).length=n,n≤4000000,bI (av (((lvals l).drop (0+0)).take (n*64))),fK (av (((lvals l).drop (0+0)).take (n*64))) n=true]:=by delta oN;kernel_rfl
section
variable (H:Nd→Nd→B32) (hH:H=hV) (E:B32) (hE':E=hE) (S:Nd→B32) (hS':S=hS)
theorem sZ (l:List Lf) (n c:Nat) (ty:TypeId) (h:B32) (e:Int):oN [0,1] (ΓZ H hH E hE' S hS') 100 body (aK fn [.o (.a (.sld 0 0 0 n c))]) [⟨false,ty,.prv (lvals l)⟩] [(15,[.s (hsS (h,e))])] .ret (MR e) (memR l ty h) [0+0+n*64≤(lvals l).length,n≤c,((lvals l).drop (0+0)).take (n*64)=lvals (av (((lvals l).drop (0+0)).take (n*64))),(av (((lvals l).drop (0+0)).take (n*64))).length=n,n=0,hsS (E,0)=hsS (h,e)]:=by delta oN;kernel_rfl
theorem sn (a:Option Addr) (h:B32) (e:Int):oN [0] (ΓZ H hH E hE' S hS') 100 body (aK fn [.o (.a (.v (.slice a 0 0)))]) [] [(15,[.s (hsS (h,e))])] .ret (MN e) (memN h) [hsS (E,0)=hsS (h,e)]:=by delta oN;kernel_rfl
theorem sP (l:List Lf) (n c:Nat) (ty:TypeId) (h:B32) (e:Int):oN [0,1] (ΓP H hH E hE' S hS') 100 body (aK fn [.o (.a (.sld 0 0 0 n c))]) [⟨false,ty,.prv (lvals l)⟩] [(15,[.s (hsS (h,e))])] .ret (MR e) (memR l ty h) [0+0+n*64≤(lvals l).length,n≤c,((lvals l).drop (0+0)).take (n*64)=lvals (av (((lvals l).drop (0+0)).take (n*64))),(av (((lvals l).drop (0+0)).take (n*64))).length=n,n≤4000000,bI (av (((lvals l).drop (0+0)).take (n*64))),fK (av (((lvals l).drop (0+0)).take (n*64))) n=false,0<n,0+0+n*65≤(ah (dU (av (((lvals l).drop (0+0)).take (n*64))) n)).length,n≤n,((ah (dU (av (((lvals l).drop (0+0)).take (n*64))) n)).drop (0+0)).take (n*65)=ah (ak (((ah (dU (av (((lvals l).drop (0+0)).take (n*64))) n)).drop (0+0)).take (n*65))),(ak (((ah (dU (av (((lvals l).drop (0+0)).take (n*64))) n)).drop (0+0)).take (n*65))).length=n,n<bK,bg (ak (((ah (dU (av (((lvals l).drop (0+0)).take (n*64))) n)).drop (0+0)).take (n*65))),hsS (bO H E S (ak (((ah (dU (av (((lvals l).drop (0+0)).take (n*64))) n)).drop (0+0)).take (n*65))))=hsS (h,e)]:=by delta oN;kernel_rfl
end
theorem rootV_nil (H:Nd→Nd→B32) (E:B32) (S:Nd→B32):bO H E S []=(E,0):=rfl
theorem run (H:Nd→Nd→B32) (hH:H=hV) (E:B32) (hE':E=hE) (S:Nd→B32) (hS':S=hS) (l:List Lf) (n c:Nat) (ty:TypeId) (hn:l.length=n) (hm:n≤4000000) (hc:n≤c) (hok:bI l):aF Tryd.prog GT 1 body (aK fn [.o (.a (.sld 0 0 0 n c))]) [⟨false,ty,.prv (lvals l)⟩] (aH tys fn (bJ (hsS (gM H E S l)) .none)):=by
 obtain⟨y1,y2⟩:=lfN_two n hn
 have hl:(lvals l).length=n*64:=by rw[←hn];exact bU l
 unfold gM
 rw[hn]
 cases hd:fK l n with
 | true=>
  rw[cond_true]
  exact Runs.aP aj mixed [0,1] (sE l n c ty) ⟨by omega,hc,y1,by rw[y2];exact hn,hm,by rw[y2];exact hok,by rw[y2];exact hd,trivial⟩ (idR _ _ _ _) rfl fun g=>aH.ret (zr _ _ _ _ g) rfl
 | false=>
  rw[cond_false]
  rcases Nat.eq_zero_or_pos n with h0 | h0
  ·subst h0
   rw[show dU l 0=[] from rfl,rootV_nil]
   exact Runs.aP aj mixed [0,1] (sZ H hH E hE' S hS' l 0 c ty E 0) ⟨by omega,hc,y1,by rw[y2];exact hn,rfl,rfl,trivial⟩ (idR _ _ _ _) rfl fun g=>aH.ret (zr _ _ _ _ g) rfl
  ·have ht:(dU l n).length=n:=pE l n
   have hz:(ah (dU l n)).length=n*65:=by rw[bH,ht]
   obtain⟨z1,z2⟩:=ow n ht
   exact Runs.aP aj mixed [0,1] (sP H hH E hE' S hS' l n c ty (bO H E S (dU l n)).1 (bO H E S (dU l n)).2) ⟨by omega,hc,y1,by rw[y2];exact hn,hm,by rw[y2];exact hok,by rw[y2];exact hd,h0,by rw[y2,hz];omega,Nat.le_refl _,by rw[y2];exact z1,by rw[y2,z2];exact ht,by unfold bK;omega,by rw[y2,z2];exact pz hok n (by omega),by rw[y2,z2],trivial⟩ (idR _ _ _ _) rfl fun g=>aH.ret (zr _ _ _ _ g) rfl
theorem run0 (H:Nd→Nd→B32) (hH:H=hV) (E:B32) (hE':E=hE) (S:Nd→B32) (hS':S=hS) (a:Option Addr):aF Tryd.prog GT 0 body (aK fn [.o (.a (.v (.slice a 0 0)))]) [] (aH tys fn (bJ (hsS (gM H E S [])) .none)):=by
 exact Runs.aP aj mixed [0] (sn H hH E hE' S hS' a E 0) ⟨rfl,trivial⟩ (idN _ _) rfl fun g=>aH.ret (zn _ _ g) rfl
noncomputable def spec (H:Nd→Nd→B32) (E:B32) (S:Nd→B32):List aU→Option (SV × dH × Cst)
 | [.winv _ vs n ty]=>some (hsS (gM H E S (av vs)),.none,[vs=lvals (av vs),(av vs).length=n,n≤4000000,bI (av vs)])
 | [.val (.o (.a (.v (.slice a 0 0))))]=>some (hsS (gM H E S []),.none,[])
 | _=>none
noncomputable def con (H:Nd→Nd→B32) (hH:H=hV) (E:B32) (hE':E=hE) (S:Nd→B32) (hS':S=hS):Con Tryd.prog GT:=Con.parts aj 18 fn Tryd.func18 (by kernel_rfl) (c:=body) (by kernel_rfl) [.winv 64] (spec H E S)
 (fun ps r e p h hp=>by
  unfold spec at h
  split at h<;>cases h
  ·exact⟨rfl,fun b hb=>by simp only[bf,aU.blk,List.append_nil,List.nil_append,List.mem_singleton] at hb;rw[hb]⟩
  ·exact⟨rfl,fun b hb=>by simp[bf,aU.blk] at hb⟩)
 (fun ps r e p cap h hp hi=>by
  unfold spec at h
  split at h<;>cases h
  ·rename_i s vs n ty
   obtain⟨p1,p2,p3,p4,_⟩:=hp
   have q:=run H hH E hE' S hS' (av vs) n (cap 0) ty p2 p3 hi.1.2 p4
   rw[←p1] at q
   exact q
  ·exact run0 H hH E hE' S hS' _)
end rrof
end Go.Proofs.YtdccehmekkcheaaDoor
