/- Lists of certificates: contracts; beaconref14.At, SameCerts, copyCerts: walks. -/
import Derived.Test.YthlmepolmemejaaGreatDoorLFo
import Derived.Test.YthlmepolmemejaaGreatDoorLChnA
set_option linter.unusedSimpArgs false
set_option linter.unusedVariables false
namespace Go.Proofs.YthlmepolmemejaaGreatDoor
open Go Go.Eng Go.RowKit
set_option maxRecDepth 100000
namespace rat
noncomputable abbrev fn:=Tryz.f12
noncomputable def body:Code:=bZ fn
noncomputable def L:Code:=cL (cB (cs2 (cs1 (bY 2 body))))
noncomputable def A1:Code:=cs1 (cs1 (bY 2 body))
noncomputable def D:Code:=cs2 (bY 2 body)
theorem fV:bY 2 body= .seq (.seq A1 (.block 0 (.loop L))) D:=by kernel_rfl
noncomputable def Γ {G:Glob}:Cons Tryz.prog G:=[]
def M0 (n c:Nat) (ep:Int):List (Option SV):=aJ 29 0 [(1,.o (.a (.sld 0 0 0 n c))),(2,.o (.a (aB .u64 ep))),(6,.o (.a (.ptr 2 0))),(7,.o (.a (.ptr 3 0)))]
def M1 (n c:Nat) (ep:Int) (j:Int):List (Option SV):=aJ 29 0 [(1,.o (.a (.sld 0 0 0 n c))),(2,.o (.a (aB .u64 ep))),(6,.o (.a (.ptr 2 0))),(7,.o (.a (.ptr 3 0))),(11,.o (.a (.v (.int .i64 n)))),(12,.o (.a (.v (.int .i64 j))))]
def MZ:List (Option SV):=aJ 29 0 [(6,.o (.a (.ptr 2 0)))]
def mem (l:List Cert) (ty:TypeId) (k:Keys) (r z:Keys):List Blk:=[⟨false,ty,.prv (aA l)⟩,⟨true,28,.lit k.row⟩,⟨true,28,.lit z.row⟩,⟨true,28,.lit r.row⟩]
theorem jy (l:List Cert) (n c:Nat) (ty:TypeId) (k:Keys) (ep:Int) (r z:Keys):oI (M0 n c ep) (mem l ty k r z):=by delta oI;kernel_rfl
theorem eT (l:List Cert) (n c:Nat) (ty:TypeId) (k:Keys) (ep:Int) (j:Int) (r z:Keys):oI (M1 n c ep j) (mem l ty k r z):=by delta oI;kernel_rfl
theorem idsZ (l:List Cert) (ty:TypeId) (k:Keys) (r z:Keys):oI (MZ) (mem l ty k r z):=by delta oI;kernel_rfl
section
variable {G:Glob} (l:List Cert) (n c:Nat) (ty:TypeId) (k:Keys) (ep:Int)
theorem s0:oX (Γ (G:=G)) 100 (dU 2 body) (aH fn [aO.enc k,.o (.a (.sld 0 0 0 n c)),.o (.a (aB .u64 ep))]) [⟨false,ty,.prv (aA l)⟩] [] .normal (M0 n c ep) (mem l ty k k zk) []:=by delta oX;kernel_rfl
theorem a1 (g:Nat→SV):oX (Γ (G:=G)) 100 A1 (fill g 0 (M0 n c ep )) (mem l ty k k zk) [] .normal (M1 n c ep 0) (mem l ty k k zk) []:=by delta oX;kernel_rfl
theorem stp (j j' e:Int) (r:Keys) (g:Nat→SV):oX (Γ (G:=G)) 100 L (fill g 0 (M1 n c ep j)) (mem l ty k r zk) [(13,[.b true]),(19,[.ds (.o (.a (aB .u64 e)))]),(21,[.b false]),(27,[.n j'])] .normal (M1 n c ep j') (mem l ty k r zk) [decide (j<n)=true,0≤j,j<n,(0+aP 0 j 130+65)<(aA l).length,SV.o (.a (.v ((aA l).getD (0+aP 0 j 130+65) undef)))= .o (.a (aB .u64 e)),decide (e≤ep)=false,IntKind.i64.wrap (j+1)=j']:=by delta oX;kernel_rfl
theorem hit (j j' e:Int) (r q:Keys) (g:Nat→SV):oX (Γ (G:=G)) 100 L (fill g 0 (M1 n c ep j)) (mem l ty k r zk) [(13,[.b true]),(19,[.ds (.o (.a (aB .u64 e)))]),(21,[.b true]),(26,[.ds (aO.enc q)]),(27,[.n j'])] .normal (M1 n c ep j') (mem l ty k q zk) [decide (j<n)=true,0≤j,j<n,(0+aP 0 j 130+65)<(aA l).length,SV.o (.a (.v ((aA l).getD (0+aP 0 j 130+65) undef)))= .o (.a (aB .u64 e)),decide (e≤ep)=true,0≤j,j<n,(0+aP 0 j 130)+65≤(aA l).length,SV.o (.g (bR (aA l) (0+aP 0 j 130) 65))=aO.enc q,IntKind.i64.wrap (j+1)=j']:=by delta oX;kernel_rfl
theorem out (j:Int) (r:Keys) (g:Nat→SV):oX (Γ (G:=G)) 100 L (fill g 0 (M1 n c ep j)) (mem l ty k r zk) [(13,[.b false])] (.exit 0) (M0 n c ep) (mem l ty k r zk) [decide (j<n)=false]:=by delta oX;kernel_rfl
theorem fin (r:Keys) (g:Nat→SV):oX (Γ (G:=G)) 100 D (fill g 0 (M0 n c ep )) (mem l ty k r zk) [] .ret (MZ) (mem l ty k r r) []:=by delta oX;kernel_rfl
end
theorem zr (l:List Cert) (ty:TypeId) (k:Keys) (r:Keys) (g:Nat→SV):eRes tys (fill g 0 (MZ )) (fun q=>(mem l ty k r r)[q]?) fn.results.toList=some [.g r.row]:=by kernel_rfl
theorem run {G:Glob} (l:List Cert) (n c:Nat) (ty:TypeId) (k:Keys) (ep:Int) (hn:l.length=n) (hm:n<9223372036854775807):aK Tryz.prog G 1 body (aH fn [aO.enc k,.o (.a (.sld 0 0 0 n c)),.o (.a (aB .u64 ep))]) [⟨false,ty,.prv (aA l)⟩] (aN tys fn (bA (aO.enc (atN l ep k n)) .none)):=by
 have hl:(aA l).length=n*130:=by rw[←hn];exact fG Cert.fE l
 refine Runs.bS ah mixed 2 (s0 l n c ty k ep) trivial (jy l n c ty k ep k zk) rfl fun g=> ?_
 rw[fV]
 refine Runs.seq (Runs.seq (Runs.au ah mixed (a1 l n c ty k ep g) trivial (eT l n c ty k ep 0 k zk) rfl fun g=> ?_))
 refine Runs.block ?_
 refine Runs.dS (fun(i:Nat)=>M1 n c ep (i:Int)) (fun i=>mem l ty k (atN l ep k i) zk) (fun i=>i≤n) (fun i=>n-i) ?_ 0 (Nat.zero_le _) g
 rintro i g hi
 by_cases hin:i=n
 ·subst hin
  refine Runs.au ah mixed (out l i c ty k ep _ (atN l ep k i) g) ⟨decide_eq_false (by omega),trivial⟩ (jy l i c ty k ep _ _) rfl fun g=> ?_
  show aK _ _ _ _ _ _ _
  exact Runs.au ah mixed (fin l i c ty k ep _ g) trivial (idsZ l ty k _ _) rfl fun g=>aN.ret (zr l ty k _ g) rfl
 ·have q:i<l.length:=by omega
  have hb:i*130+130≤n*130:=by have:=Nat.mul_le_mul_right 130 (show i+1≤n by omega);omega
  have o65:=kat.off_eq i 65
  have o0:=kat.off_eq i 0
  rw[Nat.add_zero,Nat.add_zero] at o0
  have h1:(0+aP 0 (i:Int) 130+65)<(aA l).length:=by rw[o65,hl];omega
  have h2:SV.o (.a (.v ((aA l).getD (0+aP 0 (i:Int) 130+65) undef)))= .o (.a (aB .u64 (l.getD i zc).ep)):=by rw[o65];exact ld_ep l q
  have hw:IntKind.i64.wrap ((i:Int)+1)=((i+1:Nat):Int):=by rw[IntKind.wrap_i64];omega
  cases hd:decide ((l.getD i zc).ep≤ep) with
  | false=>
   refine Runs.au ah mixed (stp l n c ty k ep i ((i+1:Nat):Int) (l.getD i zc).ep (atN l ep k i) g) ⟨decide_eq_true (by omega),by omega,by omega,h1,h2,hd,hw,trivial⟩ (eT l n c ty k ep _ _ _) rfl fun g=> ?_
   exact⟨i+1,g,rfl,by show mem _ _ _ _ _=mem _ _ _ _ _;rw[atN,hd,cond_false],by omega,by omega⟩
  | true=>
   refine Runs.au ah mixed (hit l n c ty k ep i ((i+1:Nat):Int) (l.getD i zc).ep (atN l ep k i) (l.getD i zc).k g) ⟨decide_eq_true (by omega),by omega,by omega,h1,h2,hd,by omega,by omega,by rw[o0,hl];omega,by rw[o0];exact ld_ckeys l q,hw,trivial⟩ (eT l n c ty k ep _ _ _) rfl fun g=> ?_
   exact⟨i+1,g,rfl,by show mem _ _ _ _ _=mem _ _ _ _ _;rw[atN,hd,cond_true],by omega,by omega⟩
end rat
namespace kat
def spec (l:List Cert):List aV→Option (SV × dh × Cst)
 | [.val v,.winv _ vs n ty,.val (.o (.a (.v (.int .u64 ep))))]=>match aO.dec v with
  | some k=>some (aO.enc (atN l ep k n),.none,[vs=aA l,l.length=n,n<9223372036854775807])
  | none=>none
 | _=>none
noncomputable def con {G:Glob} (l:List Cert):Con Tryz.prog G:=Con.parts ah 10 fn Tryz.func10 (by kernel_rfl) (c:=body) (by kernel_rfl) [.val,.winv 130,.val] (spec l)
 (fun ps r e p h hp=>by
  unfold spec at h
  split at h
  ·split at h<;>cases h
   exact⟨aO.ids _,fun b hb=>by simp only[bG,aV.blk,List.append_nil,List.nil_append,List.mem_singleton] at hb;rw[hb]⟩
  ·cases h)
 (fun ps r e p cap h hp hi=>by
  unfold spec at h
  split at h
  ·split at h<;>cases h
   rename_i k hk
   have:=aO.ok _ _ hk
   subst this
   obtain⟨p1,p2,p3,_⟩:=hp
   subst p1
   exact run l _ _ _ k _ p2 p3
  ·cases h)
end kat
namespace rat
def spec (l:List Cert):List aV→Option (SV × dh × Cst)
 | [.val v,.winv _ vs n ty,.val (.o (.a (.v (.int .u64 ep))))]=>match aO.dec v with
  | some k=>some (aO.enc (atN l ep k n),.none,[vs=aA l,l.length=n,n<9223372036854775807])
  | none=>none
 | _=>none
noncomputable def con {G:Glob} (l:List Cert):Con Tryz.prog G:=Con.parts ah 12 fn Tryz.func12 (by kernel_rfl) (c:=body) (by kernel_rfl) [.val,.winv 130,.val] (spec l)
 (fun ps r e p h hp=>by
  unfold spec at h
  split at h
  ·split at h<;>cases h
   exact⟨aO.ids _,fun b hb=>by simp only[bG,aV.blk,List.append_nil,List.nil_append,List.mem_singleton] at hb;rw[hb]⟩
  ·cases h)
 (fun ps r e p cap h hp hi=>by
  unfold spec at h
  split at h
  ·split at h<;>cases h
   rename_i k hk
   have:=aO.ok _ _ hk
   subst this
   obtain⟨p1,p2,p3,_⟩:=hp
   subst p1
   exact run l _ _ _ k _ p2 p3
  ·cases h)
end rat
namespace kcp
noncomputable abbrev fn:=Tryz.f9
noncomputable def body:Code:=bZ fn
noncomputable def Γ {G:Glob}:Cons Tryz.prog G:=[]
noncomputable def ep (G:Glob) (vs:List Value) (n c:Nat) (ty:TypeId):St:=dz (Γ (G:=G)) tys 100 body ⟨aH fn [.o (.a (.sld 0 0 0 n c))],[⟨false,ty,.prv vs⟩],[]⟩
section
variable {G:Glob} (vs:List Value) (n c:Nat) (ty:TypeId)
theorem exp:exec (Γ (G:=G)) tys 100 body ⟨aH fn [.o (.a (.sld 0 0 0 n c))],[⟨false,ty,.prv vs⟩],[]⟩=some (.ret,⟨(ep G vs n c ty ).tm,(ep G vs n c ty ).mem,(ep G vs n c ty ).orc⟩,[0+0+n*130≤vs.length,0<n,Room Tryz.prog 39 n]):=by kernel_rfl
theorem resp:eRes tys (ep G vs n c ty ).tm (fun k=>(ep G vs n c ty ).mem[k]?) fn.results.toList=some [.a (.slg 2 n)]:=by kernel_rfl
theorem rowp:(ep G vs n c ty ).mem[2]? =some ⟨true,39,.grv 130 ((vs.drop (0+0)).take (n*130)) n none⟩:=by kernel_rfl
end
noncomputable def ez (G:Glob) (vs:List Value) (n c:Nat) (ty:TypeId):St:=dz (Γ (G:=G)) tys 100 body ⟨aH fn [.o (.a (.sld 0 0 0 n c))],[⟨false,ty,.prv vs⟩],[(5,[.dyn])]⟩
section
variable {G:Glob} (vs:List Value) (n c:Nat) (ty:TypeId)
theorem exz:exec (Γ (G:=G)) tys 100 body ⟨aH fn [.o (.a (.sld 0 0 0 n c))],[⟨false,ty,.prv vs⟩],[(5,[.dyn])]⟩=some (.ret,⟨(ez G vs n c ty ).tm,(ez G vs n c ty ).mem,(ez G vs n c ty ).orc⟩,[0+0+n*130≤vs.length,n=0]):=by kernel_rfl
theorem resz:eRes tys (ez G vs n c ty ).tm (fun k=>(ez G vs n c ty ).mem[k]?) fn.results.toList=some [.a (.slc 1 0 0 0)]:=by kernel_rfl
theorem rowz:(ez G vs n c ty ).mem[1]? =some ⟨true,39,.lit []⟩:=by kernel_rfl
end
noncomputable def en (G:Glob):St:=dz (Γ (G:=G)) tys 100 body ⟨aH fn [.o (.a (.v (.slice none 0 0)))],[],[(5,[.dyn])]⟩
theorem exn {G:Glob}:exec (Γ (G:=G)) tys 100 body ⟨aH fn [.o (.a (.v (.slice none 0 0)))],[],[(5,[.dyn])]⟩=some (.ret,⟨(en G ).tm,(en G ).mem,(en G ).orc⟩,[0=0]):=by kernel_rfl
theorem resn {G:Glob}:eRes tys (en G ).tm (fun k=>(en G ).mem[k]?) fn.results.toList=some [.a (.slc 0 0 0 0)]:=by kernel_rfl
theorem rown {G:Glob}:(en G ).mem[0]? =some ⟨true,39,.lit []⟩:=by kernel_rfl
end kcp
end Go.Proofs.YthlmepolmemejaaGreatDoor
