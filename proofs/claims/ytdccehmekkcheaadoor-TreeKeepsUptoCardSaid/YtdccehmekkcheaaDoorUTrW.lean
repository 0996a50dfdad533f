/- Package tree: Nodes: walk, contract. -/
import Derived.Test.YtdccehmekkcheaaDoorUTrSo5
import Derived.Test.YtdccehmekkcheaaDoorUMTC
namespace Go.Proofs.YtdccehmekkcheaaDoor
open Go Go.Eng Go.RowKit
set_option linter.unusedVariables false
set_option linter.unusedSimpArgs false
set_option maxRecDepth 100000
def aB:List Value→List Lf
 | []=>[]
 | v::r=>match Lf.of ((v::r.take 63).map Atom.v) with
  | some n=>n::aB (r.drop 63)
  | none=>[]
 termination_by l=>l.length
 decreasing_by simp only[List.length_drop,List.length_cons];omega
theorem Lf.of_row (n:Lf):Lf.of n.row=some n:=rfl
theorem lfDec_vals:∀l:List Lf,aB (lvals l)=l
 | []=>by rw[show lvals []=[] from rfl,aB]
 | n::r=>by
  have e:lvals (n::r)=n.vals++lvals r:=by simp[lvals]
  rw[e]
  have e2:n.vals++lvals r= .int .u8 n.lab.b0::(((n.lab.to++n.val.to).tail.map (Value.int .u8))++lvals r):=rfl
  have hl:((n.lab.to++n.val.to).tail.map (Value.int .u8)).length=63:=rfl
  rw[e2,aB,List.take_append_of_le_length (by rw[hl];omega),List.take_of_length_le (by rw[hl];omega),List.drop_append,hl,Nat.sub_self,List.drop_zero,List.drop_eq_nil_of_le (by rw[hl];omega),List.nil_append]
  have e3:(Value.int .u8 n.lab.b0::(n.lab.to++n.val.to).tail.map (Value.int .u8)).map Atom.v=n.row:=rfl
  rw[e3,Lf.of_row]
  simp only
  rw[lfDec_vals r]
def AllL (l:List Lf):Prop:=∀x∈l,LOk x
theorem AllL.at {l:List Lf} (h:AllL l) {i:Nat} (hi:i<l.length):LOk (l.getD i zl):=by
 have e:l.getD i zl=l[i]:=by simp[List.getD,List.getElem?_eq_getElem hi]
 rw[e]
 exact h _ (List.getElem_mem hi)
noncomputable def leaves (l:List Lf) (i:Nat):List Nd:=(l.take i).map leafV
theorem leaves_len {l:List Lf} {i:Nat} (h:i≤l.length):(leaves l i).length=i:=by unfold leaves;rw[List.length_map,List.length_take];omega
theorem leaves_succ {l:List Lf} {i:Nat} (h:i<l.length):leaves l (i+1)=leaves l i++[leafV (l.getD i zl)]:=by
 unfold leaves
 have e:l.getD i zl=l[i]:=by simp[List.getD,List.getElem?_eq_getElem h]
 rw[e,List.take_succ_eq_append_getElem h,List.map_append]
 rfl
theorem leaves_all (l:List Lf):leaves l l.length=l.map leafV:=by unfold leaves;rw[List.take_length]
theorem put_leaf {l:List Lf} {i n:Nat} (hn:l.length=n) (h:i<n) (x:Nd):putV (i*65) x.vals (ah (leaves l i)++repV zn.vals (n-i))=ah (leaves l i++[x])++repV zn.vals (n-(i+1)):=by
 have hl:(ah (leaves l i)).length=i*65:=by rw[aR,leaves_len (by omega)]
 unfold putV
 rw[List.take_append_of_le_length (by omega),List.take_of_length_le (by omega),List.drop_append,hl,List.drop_eq_nil_of_le (by omega),List.nil_append,show i*65+x.vals.length-i*65=65 by rw[Nd.vals_len];omega]
 rw[show n-i=(n-(i+1))+1 by omega,repV,List.drop_append,show(zn.vals).length=65 from rfl,Nat.sub_self,List.drop_zero,List.drop_eq_nil_of_le (by rw[Nd.vals_len];omega),List.nil_append,nvals_app,nvals_one,List.append_assoc]
theorem roomN (n:Nat) (h:n≤4000000):Room Tryd.prog 33 n:=by
 have h1:(Tryd.prog.info? 33).map (·.bytes)=some 72:=by kernel_rfl
 cases hq:Tryd.prog.info? 33 with
 | none=>rw[hq] at h1;cases h1
 | some j=>
  rw[hq] at h1
  have:j.bytes=72:=by simpa using h1
  exact⟨j,hq,by rw[this];omega,by omega⟩
noncomputable def tndV (l:List Lf):List Nd:=sortL (l.map leafV)
theorem tnd_len (l:List Lf):(tndV l).length=l.length:=by unfold tndV;rw[sortL_len,List.length_map]
namespace tnd
noncomputable abbrev fn:=Tryd.f54
noncomputable def body:Code:=bq fn
noncomputable def L:Code:=cL (cB (cs2 (cs1 (csuf 2 body))))
noncomputable def A1:Code:=cs1 (cs1 (csuf 2 body))
noncomputable def D:Code:=cs2 (csuf 2 body)
noncomputable def Γ:Cons Tryd.prog GT:=[tleaf.con,sort_con]
theorem bG:csuf 2 body= .seq (.seq A1 (.block 0 (.loop L))) D:=by kernel_rfl
def mem (l:List Lf) (ty:TypeId) (n:Nat) (vs:List Value):List Blk:=[⟨false,ty,.prv (lvals l)⟩,⟨true,33,.grv 65 vs n none⟩]
def M0 (l:List Lf) (n c:Nat) (ty:TypeId):List (Option SV):=aF 25 0 [(0,.o (.a (.sld 0 0 0 n c))),(3,.o (.a (.slg 1 n)))]
def M1 (l:List Lf) (n c:Nat) (ty:TypeId) (j:Int):List (Option SV):=aF 25 0 [(3,.o (.a (.slg 1 n))),(9,.o (.a (.sld 0 0 0 n c))),(10,.o (.a (int1 .i64 n))),(11,.o (.a (int1 .i64 j)))]
def M2 (l:List Lf) (n c:Nat) (ty:TypeId):List (Option SV):=aF 25 0 [(3,.o (.a (.slg 1 n)))]
def M3 (l:List Lf) (n c:Nat) (ty:TypeId):List (Option SV):=aF 25 0 [(2,.o (.a (.slg 1 n)))]
section
variable (l:List Lf) (n c:Nat) (ty:TypeId)
theorem ids0 (vs:List Value):aD (mem l ty n vs).length (M0 l n c ty ) (mem l ty n vs)=true:=by kernel_rfl
theorem ids1 (vs:List Value) (j:Int):aD (mem l ty n vs).length (M1 l n c ty j) (mem l ty n vs)=true:=by kernel_rfl
theorem ids2 (vs:List Value):aD (mem l ty n vs).length (M2 l n c ty ) (mem l ty n vs)=true:=by kernel_rfl
theorem ids3 (vs:List Value):aD (mem l ty n vs).length (M3 l n c ty ) (mem l ty n vs)=true:=by kernel_rfl
theorem s0:outX (mem l ty n (repV zn.vals n)).length (M0 l n c ty ) (exec Γ tys 300 (cpre 2 body) ⟨aH fn [.o (.a (.sld 0 0 0 n c))],[⟨false,ty,.prv (lvals l)⟩],[]⟩)=some (.normal,live (M0 l n c ty ),(M0 l n c ty ).length,mem l ty n (repV zn.vals n),[0≤(n:Int),(n:Int)=n,Room Tryd.prog 33 n]):=by kernel_rfl
theorem a1 (vs:List Value) (g:Nat→SV):outX (mem l ty n vs).length (M1 l n c ty 0) (exec Γ tys 300 A1 ⟨fill g 0 (M0 l n c ty ),mem l ty n vs,[]⟩)=some (.normal,live (M1 l n c ty 0),(M1 l n c ty 0).length,mem l ty n vs,[]):=by kernel_rfl
theorem stp (vs:List Value) (j j':Int) (x:Lf) (y:Nd) (g:Nat→SV):outN [0,1] (M1 l n c ty j') (exec Γ tys 100 L ⟨fill g 0 (M1 l n c ty j),mem l ty n vs,[(12,[.b true]),(15,[.ds (cLf.enc x)]),(19,[.s (cNd.enc y)]),(21,[.n j'])]⟩)=some (.normal,(live (M1 l n c ty j')).map (SV.ren (piF [0,1])),(M1 l n c ty j').length,(mem l ty n (putV (0+offI 0 j 65) y.vals vs)).map (fun b=>some (b.ren (piF [0,1]))),[decide (j<n)=true,0≤j,j<n,0+offI 0 j 64+64≤(lvals l).length,SV.o (.g (aZ (lvals l) (0+offI 0 j 64) 64))=cLf.enc x,LOk x,cNd.enc (leafV x)=cNd.enc y,0≤j,j<n,0+offI 0 j 65+65≤vs.length,IntKind.i64.wrap (j+1)=j']):=by kernel_rfl
theorem out (vs:List Value) (j:Int) (g:Nat→SV):outX (mem l ty n vs).length (M2 l n c ty ) (exec Γ tys 300 L ⟨fill g 0 (M1 l n c ty j),mem l ty n vs,[(12,[.b false])]⟩)=some ((.exit 0),live (M2 l n c ty ),(M2 l n c ty ).length,mem l ty n vs,[decide (j<n)=false]):=by kernel_rfl
theorem fin (vs:List Value) (g:Nat→SV):outX (mem l ty n (ah (sortL (ak vs)))).length (M3 l n c ty ) (exec Γ tys 300 D ⟨fill g 0 (M2 l n c ty ),mem l ty n vs,[]⟩)=some (.ret,live (M3 l n c ty ),(M3 l n c ty ).length,mem l ty n (ah (sortL (ak vs))),[65=65,vs=ah (ak vs),(ak vs).length=n,n<4611686018427387904]):=by kernel_rfl
theorem zr (vs:List Value) (g:Nat→SV):eRes tys (fill g 0 (M3 l n c ty )) (fun k=>(mem l ty n vs)[k]?) fn.results.toList=some [.a (.slg 1 n)]:=by kernel_rfl
theorem run (hn:l.length=n) (hm:n≤4000000) (hok:AllL l):aC Tryd.prog GT 1 body (aH fn [.o (.a (.sld 0 0 0 n c))]) [⟨false,ty,.prv (lvals l)⟩] (aG tys fn (aS (.o (.a (.slg 0 n))) (.new 33 (.grv 65 (ah (tndV l)) n none)))):=by
 have hl:(lvals l).length=n*64:=by rw[←hn];exact bR l
 refine Runs.bD aj mixed 2 (s0 l n c ty) ⟨by omega,rfl,roomN n hm,trivial⟩ (ids0 l n c ty _) rfl fun g=> ?_
 rw[bG]
 refine Runs.seq (Runs.seq (Runs.au aj mixed (a1 l n c ty _ g) trivial (ids1 l n c ty _ _) rfl fun g=> ?_))
 refine Runs.block ?_
 have h00:repV zn.vals n=ah (leaves l 0)++repV zn.vals (n-0):=rfl
 rw[h00]
 refine Runs.bC (fun(i:Nat)=>M1 l n c ty (i:Int)) (fun i=>mem l ty n (ah (leaves l i)++repV zn.vals (n-i))) (fun i=>i≤n) (fun i=>n-i) ?_ 0 (Nat.zero_le _) g
 rintro i g hi
 rcases Nat.lt_or_ge i n with h | h
 ·have o64:=offs i 64
  have o65:=offs i 65
  have hb:i*64+64≤n*64:=by have:=Nat.mul_le_mul_right 64 (show i+1≤n by omega);omega
  have hb5:i*65+65≤n*65:=by have:=Nat.mul_le_mul_right 65 (show i+1≤n by omega);omega
  refine Runs.aK aj mixed [0,1] (stp l n c ty _ i ((i+1:Nat):Int) (l.getD i zl) (leafV (l.getD i zl)) g) ⟨decide_eq_true (by omega),by omega,by omega,by rw[o64,hl];omega,by rw[o64];exact ld_lf l (by omega),hok.at (by omega),rfl,by omega,by omega,?_,by rw[IntKind.wrap_i64];omega,trivial⟩ (ids1 l n c ty _ _) rfl fun g=> ?_
  ·rw[o65,List.length_append,aR,leaves_len (by omega),repV_length,show zn.vals.length=65 from rfl,Nat.sub_mul]
   omega
  ·refine⟨i+1,g,rfl,?_,by omega,by omega⟩
   rw[o65,put_leaf hn h,←leaves_succ (by omega)]
 ·obtain rfl:i=n:=by omega
  refine Runs.au aj mixed (out l i c ty _ i g) ⟨decide_eq_false (by omega),trivial⟩ (ids2 l i c ty _) rfl fun g=> ?_
  show aC _ _ _ _ _ _ _
  have e:ah (leaves l i)++repV zn.vals (i-i)=ah (l.map leafV):=by rw[Nat.sub_self,repV,List.append_nil,←hn,leaves_all]
  rw[e]
  refine Runs.au aj mixed (fin l i c ty _ g) ⟨rfl,by rw[aU],by rw[aU,List.length_map];exact hn,by omega,trivial⟩ (ids3 l i c ty _) rfl fun g=>aG.ret (zr l i c ty _ g) ?_
  rw[aU]
  exact⟨1,rfl,rfl⟩
end
def MZ:List (Option SV):=aF 25 0 [(2,.o (.a (.slg 0 0)))]
noncomputable def memZ:List Blk:=[⟨true,33,.grv 65 (ah (sortL (ak []))) 0 none⟩]
theorem nil (a:Option Addr):outX memZ.length MZ (exec Γ tys 300 body ⟨aH fn [.o (.a (.v (.slice a 0 0)))],[],[(8,[.dyn])]⟩)=some (.ret,live MZ,MZ.length,memZ,[(0:Int)≤0,(0:Int)=0,Room Tryd.prog 33 0,65=65,[]=ah (ak []),(ak []).length=0,0<4611686018427387904]):=by kernel_rfl
theorem nil_z (g:Nat→SV):eRes tys (fill g 0 MZ) (fun k=>memZ[k]?) fn.results.toList=some [.a (.slg 0 0)]:=by kernel_rfl
noncomputable def spec:List PArg→Option (SV × LEff × Cst)
 | [.winv _ vs n ty]=>some (.o (.a (.slg 0 n)),.new 33 (.grv 65 (ah (tndV (aB vs))) n none),[vs=lvals (aB vs),(aB vs).length=n,n≤4000000,AllL (aB vs)])
 | [.val (.o (.a (.v (.slice a 0 0))))]=>some (.o (.a (.slg 0 0)),.new 33 (.grv 65 (ah (tndV [])) 0 none),[])
 | _=>none
theorem dec0:ak []=[]:=by rw[ak]
theorem nil_run (a:Option Addr):aC Tryd.prog GT 0 body (aH fn [.o (.a (.v (.slice a 0 0)))]) [] (aG tys fn (aS (.o (.a (.slg 0 0))) (.new 33 (.grv 65 (ah (tndV [])) 0 none)))):=by
 refine Runs.au aj mixed (nil a) ⟨Int.le_refl _,rfl,roomN 0 (by omega),rfl,by rw[dec0];rfl,by rw[dec0];rfl,by omega,trivial⟩ (by kernel_rfl) rfl fun g=>aG.ret (nil_z g) ?_
 unfold memZ
 rw[dec0]
 exact⟨0,rfl,rfl⟩
noncomputable def con:Con Tryd.prog GT:=Con.parts aj 54 fn Tryd.func54 (by kernel_rfl) (c:=body) (by kernel_rfl) [.winv 64] spec
 (fun ps r e p h hp=>by
  unfold spec at h
  split at h<;>cases h
  ·exact⟨rfl,fun b hb=>by simp only[aN,PArg.blk,List.append_nil,List.nil_append,List.mem_singleton] at hb;rw[hb]⟩
  ·exact⟨rfl,fun b hb=>by simp[aN,PArg.blk] at hb⟩)
 (fun ps r e p cap h hp hi=>by
  unfold spec at h
  split at h<;>cases h
  ·rename_i s vs n ty
   obtain⟨p1,p2,p3,p4,_⟩:=hp
   have q:=run (aB vs) n (cap 0) ty p2 p3 p4
   rw[←p1] at q
   exact q
  ·exact nil_run _)
end tnd
end Go.Proofs.YtdccehmekkcheaaDoor
