/- Package tree: Nodes: walk, contract. -/
import Derived.Test.YtdccehmekkcheaaDoorBFo
import Derived.Test.YtdccehmekkcheaaDoorBMTG
import Derived.Test.YtdccehmekkcheaaDoorBMTC
namespace Go.Proofs.YtdccehmekkcheaaDoor
open Go Go.Eng Go.RowKit
set_option linter.unusedVariables false
set_option linter.unusedSimpArgs false
set_option maxRecDepth 100000
def ak:List Value→List Lf
 | []=>[]
 | v::r=>match Lf.of ((v::r.take 63).map Atom.v) with
  | some n=>n::ak (r.drop 63)
  | none=>[]
 termination_by l=>l.length
 decreasing_by simp only[List.length_drop,List.length_cons];omega
theorem Lf.of_row (n:Lf):Lf.of n.row=some n:=rfl
theorem aY:∀l:List Lf,ak (lvals l)=l
 | []=>by rw[show lvals []=[] from rfl,ak]
 | n::r=>by
  have e:lvals (n::r)=n.vals++lvals r:=by simp[lvals]
  rw[e]
  have e2:n.vals++lvals r= .int .u8 n.lab.b0::(((n.lab.to++n.val.to).tail.map (Value.int .u8))++lvals r):=rfl
  have hl:((n.lab.to++n.val.to).tail.map (Value.int .u8)).length=63:=rfl
  rw[e2,ak,List.take_append_of_le_length (by rw[hl];omega),List.take_of_length_le (by rw[hl];omega),List.drop_append,hl,Nat.sub_self,List.drop_zero,List.drop_eq_nil_of_le (by rw[hl];omega),List.nil_append]
  have e3:(Value.int .u8 n.lab.b0::(n.lab.to++n.val.to).tail.map (Value.int .u8)).map Atom.v=n.row:=rfl
  rw[e3,Lf.of_row]
  simp only
  rw[aY r]
def AllL (l:List Lf):Prop:=∀x∈l,LOk x
theorem AllL.at {l:List Lf} (h:AllL l) {i:Nat} (hi:i<l.length):LOk (l.getD i zl):=by
 have e:l.getD i zl=l[i]:=by simp[List.getD,List.getElem?_eq_getElem hi]
 rw[e]
 exact h _ (List.getElem_mem hi)
noncomputable def leaves (l:List Lf) (i:Nat):List Nd:=(l.take i).map leafV
theorem leaves_len {l:List Lf} {i:Nat} (h:i≤l.length):(leaves l i).length=i:=by unfold leaves;rw[List.length_map,List.length_take];omega
theorem leaves_succ {l:List Lf} {i:Nat} (h:i<l.length):leaves l (i+1)=leaves l i++[leafV (l.getD i zl)]:=by
 unfold leaves
 have e:l.getD i zl=l[i]:=by simp[List.getD,List.getElem?_eq_getElem h]
 rw[e,List.take_succ_eq_append_getElem h,List.map_append]
 rfl
theorem leaves_all (l:List Lf):leaves l l.length=l.map leafV:=by unfold leaves;rw[List.take_length]
theorem put_leaf {l:List Lf} {i n:Nat} (hn:l.length=n) (h:i<n) (x:Nd):putV (i*65) x.vals (ah (leaves l i)++repV zn.vals (n-i))=ah (leaves l i++[x])++repV zn.vals (n-(i+1)):=by
 have hl:(ah (leaves l i)).length=i*65:=by rw[bn,leaves_len (by omega)]
 unfold putV
 rw[List.take_append_of_le_length (by omega),List.take_of_length_le (by omega),List.drop_append,hl,List.drop_eq_nil_of_le (by omega),List.nil_append,show i*65+x.vals.length-i*65=65 by rw[Nd.bf];omega]
 rw[show n-i=(n-(i+1))+1 by omega,repV,List.drop_append,show(zn.vals).length=65 from rfl,Nat.sub_self,List.drop_zero,List.drop_eq_nil_of_le (by rw[Nd.bf];omega),List.nil_append,nvals_app,nvals_one,List.append_assoc]
theorem roomN (n:Nat) (h:n≤4000000):Room Tryd.prog 33 n:=by
 have h1:(Tryd.prog.info? 33).map (·.bytes)=some 72:=by kernel_rfl
 cases hq:Tryd.prog.info? 33 with
 | none=>rw[hq] at h1;cases h1
 | some j=>
  rw[hq] at h1
  have:j.bytes=72:=by simpa using h1
  exact⟨j,hq,by rw[this];omega,by omega⟩
noncomputable def tndV (l:List Lf):List Nd:=sortL (l.map leafV)
theorem tnd_len (l:List Lf):(tndV l).length=l.length:=by unfold tndV;rw[sortL_len,List.length_map]
namespace tnd
noncomputable abbrev fn:=Tryd.f54
noncomputable def body:Code:=bF fn
noncomputable def L:Code:=cL (cB (cs2 (cs1 (csuf 2 body))))
noncomputable def A1:Code:=cs1 (cs1 (csuf 2 body))
noncomputable def D:Code:=cs2 (csuf 2 body)
noncomputable def Γ:Cons Tryd.prog GT:=[tleaf.con,sort_con]
theorem suf_eq:csuf 2 body= .seq (.seq A1 (.block 0 (.loop L))) D:=by kernel_rfl
def mem (l:List Lf) (ty:TypeId) (n:Nat) (vs:List Value):List Blk:=[⟨false,ty,.prv (lvals l)⟩,⟨true,33,.grv 65 vs n none⟩]
def M0 (n c:Nat):List (Option SV):=aD 25 0 [(0,.o (.a (.sld 0 0 0 n c))),(3,.o (.a (.slg 1 n)))]
def M1 (n c:Nat) (j:Int):List (Option SV):=aD 25 0 [(3,.o (.a (.slg 1 n))),(9,.o (.a (.sld 0 0 0 n c))),(10,.o (.a (int1 .i64 n))),(11,.o (.a (int1 .i64 j)))]
def M2 (n:Nat):List (Option SV):=aD 25 0 [(3,.o (.a (.slg 1 n)))]
def M3 (n:Nat):List (Option SV):=aD 25 0 [(2,.o (.a (.slg 1 n)))]
section
variable (l:List Lf)
theorem ids0 (n c:Nat) (ty:TypeId) (vs:List Value):oI (M0 n c) (mem l ty n vs):=by delta oI;kernel_rfl
theorem ids1 (n c:Nat) (ty:TypeId) (vs:List Value) (j:Int):oI (M1 n c j) (mem l ty n vs):=by delta oI;kernel_rfl
theorem ids2 (n:Nat) (ty:TypeId) (vs:List Value):oI (M2 n) (mem l ty n vs):=by delta oI;kernel_rfl
theorem ids3 (n:Nat) (ty:TypeId) (vs:List Value):oI (M3 n) (mem l ty n vs):=by delta oI;kernel_rfl
theorem s0 (n c:Nat) (ty:TypeId):oX Γ 300 (cpre 2 body) (aG fn [.o (.a (.sld 0 0 0 n c))]) [⟨false,ty,.prv (lvals l)⟩] [] .normal (M0 n c) (mem l ty n (repV zn.vals n)) [0≤(n:Int),(n:Int)=n,Room Tryd.prog 33 n]:=by delta oX;kernel_rfl
theorem a1 (n c:Nat) (ty:TypeId) (vs:List Value) (g:Nat→SV):oX Γ 300 A1 (fill g 0 (M0 n c )) (mem l ty n vs) [] .normal (M1 n c 0) (mem l ty n vs) []:=by delta oX;kernel_rfl
theorem stp (n c:Nat) (ty:TypeId) (vs:List Value) (j j':Int) (x:Lf) (y:Nd) (g:Nat→SV):oN [0,1] Γ 100 L (fill g 0 (M1 n c j)) (mem l ty n vs) [(12,[.b true]),(15,[.ds (cLf.enc x)]),(19,[.s (cNd.enc y)]),(21,[.n j'])] .normal (M1 n c j') (mem l ty n (putV (0+offI 0 j 65) y.vals vs)) [decide (j<n)=true,0≤j,j<n,0+offI 0 j 64+64≤(lvals l).length,SV.o (.g (aI (lvals l) (0+offI 0 j 64) 64))=cLf.enc x,LOk x,cNd.enc (leafV x)=cNd.enc y,0≤j,j<n,0+offI 0 j 65+65≤vs.length,IntKind.i64.wrap (j+1)=j']:=by delta oN;kernel_rfl
theorem out (n c:Nat) (ty:TypeId) (vs:List Value) (j:Int) (g:Nat→SV):oX Γ 300 L (fill g 0 (M1 n c j)) (mem l ty n vs) [(12,[.b false])] (.exit 0) (M2 n) (mem l ty n vs) [decide (j<n)=false]:=by delta oX;kernel_rfl
theorem fin (n:Nat) (ty:TypeId) (vs:List Value) (g:Nat→SV):oX Γ 300 D (fill g 0 (M2 n )) (mem l ty n vs) [] .ret (M3 n) (mem l ty n (ah (sortL (au vs)))) [65=65,vs=ah (au vs),(au vs).length=n,n<4611686018427387904]:=by delta oX;kernel_rfl
theorem zr (n:Nat) (ty:TypeId) (vs:List Value) (g:Nat→SV):eRes tys (fill g 0 (M3 n )) (fun k=>(mem l ty n vs)[k]?) fn.results.toList=some [.a (.slg 1 n)]:=by kernel_rfl
theorem run (n c:Nat) (ty:TypeId) (hn:l.length=n) (hm:n≤4000000) (hok:AllL l):aB Tryd.prog GT 1 body (aG fn [.o (.a (.sld 0 0 0 n c))]) [⟨false,ty,.prv (lvals l)⟩] (aF tys fn (aZ (.o (.a (.slg 0 n))) (.new 33 (.grv 65 (ah (tndV l)) n none)))):=by
 have hl:(lvals l).length=n*64:=by rw[←hn];exact bE l
 refine Runs.bq aj mixed 2 (s0 l n c ty) ⟨by omega,rfl,roomN n hm,trivial⟩ (ids0 l n c ty _) rfl fun g=> ?_
 rw[suf_eq]
 refine Runs.seq (Runs.seq (Runs.av aj mixed (a1 l n c ty _ g) trivial (ids1 l n c ty _ _) rfl fun g=> ?_))
 refine Runs.block ?_
 have h00:repV zn.vals n=ah (leaves l 0)++repV zn.vals (n-0):=rfl
 rw[h00]
 refine Runs.loopX (fun(i:Nat)=>M1 n c (i:Int)) (fun i=>mem l ty n (ah (leaves l i)++repV zn.vals (n-i))) (fun i=>i≤n) (fun i=>n-i) ?_ 0 (Nat.zero_le _) g
 rintro i g hi
 rcases Nat.lt_or_ge i n with h | h
 ·have o64:=offs i 64
  have o65:=offs i 65
  have hb:i*64+64≤n*64:=by have:=Nat.mul_le_mul_right 64 (show i+1≤n by omega);omega
  have hb5:i*65+65≤n*65:=by have:=Nat.mul_le_mul_right 65 (show i+1≤n by omega);omega
  refine Runs.aK aj mixed [0,1] (stp l n c ty _ i ((i+1:Nat):Int) (l.getD i zl) (leafV (l.getD i zl)) g) ⟨decide_eq_true (by omega),by omega,by omega,by rw[o64,hl];omega,by rw[o64];exact ld_lf l (by omega),hok.at (by omega),rfl,by omega,by omega,?_,by rw[IntKind.wrap_i64];omega,trivial⟩ (ids1 l n c ty _ _) rfl fun g=> ?_
  ·rw[o65,List.length_append,bn,leaves_len (by omega),repV_length,show zn.vals.length=65 from rfl,Nat.sub_mul]
   omega
  ·refine⟨i+1,g,rfl,?_,by omega,by omega⟩
   rw[o65,put_leaf hn h,←leaves_succ (by omega)]
 ·obtain rfl:i=n:=by omega
  refine Runs.av aj mixed (out l i c ty _ i g) ⟨decide_eq_false (by omega),trivial⟩ (ids2 l i ty _) rfl fun g=> ?_
  show aB _ _ _ _ _ _ _
  have e:ah (leaves l i)++repV zn.vals (i-i)=ah (l.map leafV):=by rw[Nat.sub_self,repV,List.append_nil,←hn,leaves_all]
  rw[e]
  refine Runs.av aj mixed (fin l i ty _ g) ⟨rfl,by rw[aU],by rw[aU,List.length_map];exact hn,by omega,trivial⟩ (ids3 l i ty _) rfl fun g=>aF.ret (zr l i ty _ g) ?_
  rw[aU]
  exact⟨1,rfl,rfl⟩
end
def MZ:List (Option SV):=aD 25 0 [(2,.o (.a (.slg 0 0)))]
noncomputable def memZ:List Blk:=[⟨true,33,.grv 65 (ah (sortL (au []))) 0 none⟩]
theorem nil (a:Option Addr):oX Γ 300 body (aG fn [.o (.a (.v (.slice a 0 0)))]) [] [(8,[.dyn])] .ret MZ memZ [(0:Int)≤0,(0:Int)=0,Room Tryd.prog 33 0,65=65,[]=ah (au []),(au []).length=0,0<4611686018427387904]:=by delta oX;kernel_rfl
theorem nil_z (g:Nat→SV):eRes tys (fill g 0 MZ) (fun k=>memZ[k]?) fn.results.toList=some [.a (.slg 0 0)]:=by kernel_rfl
noncomputable def spec:List PArg→Option (SV × LEff × Cst)
 | [.winv _ vs n ty]=>some (.o (.a (.slg 0 n)),.new 33 (.grv 65 (ah (tndV (ak vs))) n none),[vs=lvals (ak vs),(ak vs).length=n,n≤4000000,AllL (ak vs)])
 | [.val (.o (.a (.v (.slice a 0 0))))]=>some (.o (.a (.slg 0 0)),.new 33 (.grv 65 (ah (tndV [])) 0 none),[])
 | _=>none
theorem dec0:au []=[]:=by rw[au]
theorem nil_run (a:Option Addr):aB Tryd.prog GT 0 body (aG fn [.o (.a (.v (.slice a 0 0)))]) [] (aF tys fn (aZ (.o (.a (.slg 0 0))) (.new 33 (.grv 65 (ah (tndV [])) 0 none)))):=by
 refine Runs.av aj mixed (nil a) ⟨Int.le_refl _,rfl,roomN 0 (by omega),rfl,by rw[dec0];rfl,by rw[dec0];rfl,by omega,trivial⟩ (by kernel_rfl) rfl fun g=>aF.ret (nil_z g) ?_
 unfold memZ
 rw[dec0]
 exact⟨0,rfl,rfl⟩
noncomputable def con:Con Tryd.prog GT:=Con.parts aj 54 fn Tryd.func54 (by kernel_rfl) (c:=body) (by kernel_rfl) [.winv 64] spec
 (fun ps r e p h hp=>by
  unfold spec at h
  split at h<;>cases h
  ·exact⟨rfl,fun b hb=>by simp only[aM,PArg.blk,List.append_nil,List.nil_append,List.mem_singleton] at hb;rw[hb]⟩
  ·exact⟨rfl,fun b hb=>by simp[aM,PArg.blk] at hb⟩)
 (fun ps r e p cap h hp hi=>by
  unfold spec at h
  split at h<;>cases h
  ·rename_i s vs n ty
   obtain⟨p1,p2,p3,p4,_⟩:=hp
   have q:=run (ak vs) n (cap 0) ty p2 p3 p4
   rw[←p1] at q
   exact q
  ·exact nil_run _)
end tnd
end Go.Proofs.YtdccehmekkcheaaDoor
namespace Go.Proofs.YtdccehmekkcheaaDoor
open Go Go.Eng Go.RowKit
set_option linter.unusedVariables false
set_option linter.unusedSimpArgs false
set_option maxRecDepth 100000
def insK (out:List Nd) (x:Nd):Nat→Nat
 | 0=>0
 | k+1=>bif ltV x.pre (out.getD k zn).pre then insK out x k else k+1
def insV (out:List Nd) (x:Nd):List Nd:=out.take (insK out x out.length)++x::out.drop (insK out x out.length)
def dupK (out:List Nd) (x:Nd):Nat→Bool
 | 0=>false
 | k+1=>eqL (out.getD k zn).pre.to x.pre.to
def dupV (out:List Nd) (x:Nd):Bool:=dupK out x (insK out x out.length)
noncomputable def rndA (l:List Lf):Nat→List Nd
 | 0=>[]
 | i+1=>insV (rndA l i) (leafV (l.getD i zl))
noncomputable def rndD (l:List Lf):Nat→Bool
 | 0=>false
 | i+1=>rndD l i||dupV (rndA l i) (leafV (l.getD i zl))
theorem insK_le (out:List Nd) (x:Nd):∀k,insK out x k≤k
 | 0=>Nat.le_refl _
 | k+1=>by
  unfold insK
  cases ltV x.pre (out.getD k zn).pre
  ·exact Nat.le_refl _
  ·exact Nat.le_succ_of_le (insK_le out x k)
theorem insV_len (out:List Nd) (x:Nd):(insV out x).length=out.length+1:=by
 have:=insK_le out x out.length
 unfold insV
 rw[List.length_append,List.length_take,List.length_cons,List.length_drop]
 omega
theorem rndA_len (l:List Lf):∀i,(rndA l i).length=i
 | 0=>rfl
 | i+1=>by rw[rndA,insV_len,rndA_len l i]
theorem mem_insV {out:List Nd} {x y:Nd} (h:y∈insV out x):y=x∨y∈out:=by
 unfold insV at h
 rcases List.mem_append.1 h with h | h
 ·exact .inr (List.mem_of_mem_take h)
 ·rcases List.mem_cons.1 h with h | h
  ·exact .inl h
  ·exact .inr (List.mem_of_mem_drop h)
end Go.Proofs.YtdccehmekkcheaaDoor
namespace Go.Proofs.YtdccehmekkcheaaDoor
open Go Go.Eng Go.RowKit
set_option linter.unusedVariables false
set_option linter.unusedSimpArgs false
set_option maxRecDepth 100000
theorem leaf_nok {z:Lf} (h:LOk z):NOk (leafV z):=⟨h.1,sha_ok _⟩
theorem tnd_ok {l:List Lf} (h:AllL l):aT (tndV l):=fun x hx=>by
 unfold tndV at hx
 obtain⟨z,hz,rfl⟩:=List.mem_map.1 ((sortL_perm _).mem_iff.1 hx)
 exact leaf_nok (h z hz)
theorem rnd_nok {l:List Lf} (h:AllL l):∀i,i≤l.length→aT (rndA l i)
 | 0,_,x,hx=>by cases hx
 | i+1,hi,x,hx=>by
  rcases mem_insV hx with rfl | hx
  ·exact leaf_nok (h.at (by omega))
  ·exact rnd_nok h i (by omega) x hx
theorem dtl {l:List Lf} {n:Nat} (hn:l.length=n):((lvals l).drop (0+0)).take (n*64)=lvals l:=by
 rw[Nat.add_zero,List.drop_zero,List.take_of_length_le (by rw[bE];omega)]
namespace rrof
theorem rootV_nil (H:Nd→Nd→B32) (E:B32) (S:Nd→B32):rootV H E S []=(E,0):=rfl
end rrof
end Go.Proofs.YtdccehmekkcheaaDoor
