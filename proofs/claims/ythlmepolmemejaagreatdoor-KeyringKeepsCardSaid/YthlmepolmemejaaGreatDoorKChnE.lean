/- Chain of both sides: contracts; SameCerts: walk, contract. -/
import Derived.Test.YthlmepolmemejaaGreatDoorKFo
import Derived.Test.YthlmepolmemejaaGreatDoorKChnD
set_option linter.unusedSimpArgs false
set_option linter.unusedVariables false
namespace Go.Proofs.YthlmepolmemejaaGreatDoor
open Go Go.Eng Go.RowKit
set_option maxRecDepth 100000
theorem oM {T:Ty} {fn:Func} {Q Q':SV→List Blk→Prop} (h:∀r m,Q r m→Q' r m) {e:Ex} {t:List SV} {m:List Blk}:aM T fn Q e t m→aM T fn Q' e t m:=fun⟨a,l,b,c⟩=>⟨a,l,b,h _ _ c⟩
theorem chQ_zero {V:Keys→Cert→Int} {l:List Cert} {k:Keys} (r:SV) (m:List Blk):chQ V l k 0 r m→bF chZ (.new 28 (.lit k.row)) r m:=fun q=>by
 rcases q with q | q | q
 ·exact absurd rfl q.1
 ·exact q.2.2
 ·exact absurd q.2.1 (by omega)
theorem chQ_pos {V:Keys→Cert→Int} {l:List Cert} {k:Keys} {n:Nat} (h:iY V l k n=0) (hn:0<n) (r:SV) (m:List Blk):chQ V l k n r m→bF (chP n) (.new 28 (.grv 65 (dM (kl l k n)) (n+1) none)) r m:=fun q=>by
 rcases q with q | q | q
 ·exact absurd h q.1
 ·exact absurd q.2.1 (by omega)
 ·exact q.2.2
namespace kch
def sZ (V:Keys→Cert→Int) (l:List Cert):List aW→Option (SV × dx × Cst)
 | [.val v,.winv _ vs n ty]=>match aT.dec v with
  | some k=>some (chZ,.new 28 (.lit k.row),[vs=aK l,l.length=n,n≤1000000,∀i,i<n→COk (l.getD i zc),n=0])
  | none=>none
 | _=>none
noncomputable def conZ (V:Keys→Cert→Int) (hV:V=ccV) (l:List Cert):Con Tryz.prog G3:=Con.parts ah 8 fn Tryz.func8 (by kernel_rfl) (c:=body) (by kernel_rfl) [.val,.winv 130] (sZ V l)
 (fun ps r e p h hp=>by
  unfold sZ at h
  split at h
  ·split at h<;>cases h
   exact⟨rfl,fun b hb=>by simp only[bI,aW.blk,List.append_nil,List.nil_append,List.mem_singleton] at hb;rw[hb]⟩
  ·cases h)
 (fun ps r e p cap h hp hi=>by
  unfold sZ at h
  split at h
  ·split at h<;>cases h
   rename_i k hk
   have:=aT.ok _ _ hk
   subst this
   obtain⟨p1,p2,p3,p4,p5⟩:=hp
   subst p1
   have q:=p5.1
   subst q
   exact Runs.mono (run V hV l _ _ _ k p2 p3 p4) (fun _ _ _ h=>oM (chQ_zero) h)
  ·cases h)
def oz (V:Keys→Cert→Int) (l:List Cert):List aW→Option (SV × dx × Cst)
 | [.val v,.winv _ vs n ty]=>match aT.dec v with
  | some k=>some (chP n,.new 28 (.grv 65 (dM (kl l k n)) (n+1) none),[vs=aK l,l.length=n,n≤1000000,∀i,i<n→COk (l.getD i zc),iY V l k n=0,0<n])
  | none=>none
 | _=>none
noncomputable def conP (V:Keys→Cert→Int) (hV:V=ccV) (l:List Cert):Con Tryz.prog G3:=Con.parts ah 8 fn Tryz.func8 (by kernel_rfl) (c:=body) (by kernel_rfl) [.val,.winv 130] (oz V l)
 (fun ps r e p h hp=>by
  unfold oz at h
  split at h
  ·split at h<;>cases h
   exact⟨rfl,fun b hb=>by simp only[bI,aW.blk,List.append_nil,List.nil_append,List.mem_singleton] at hb;rw[hb]⟩
  ·cases h)
 (fun ps r e p cap h hp hi=>by
  unfold oz at h
  split at h
  ·split at h<;>cases h
   rename_i k hk
   have:=aT.ok _ _ hk
   subst this
   obtain⟨p1,p2,p3,p4,p5⟩:=hp
   subst p1
   have q:=(show _∧_ from⟨p5.1,p5.2.1⟩)
   exact Runs.mono (run V hV l _ _ _ k p2 p3 p4) (fun _ _ _ h=>oM (chQ_pos q.1 q.2) h)
  ·cases h)
end kch
namespace rch
def oz (V:Keys→Cert→Int) (l:List Cert):List aW→Option (SV × dx × Cst)
 | [.val v,.winv _ vs n ty]=>match aT.dec v with
  | some k=>some (chP n,.new 28 (.grv 65 (dM (kl l k n)) (n+1) none),[BOk k.sg,vs=aK l,l.length=n,n≤1000000,∀i,i<n→COk (l.getD i zc),iY V l k n=0,0<n])
  | none=>none
 | _=>none
noncomputable def conP (V:Keys→Cert→Int) (hV:V=ccV) (l:List Cert):Con Tryz.prog G3:=Con.parts ah 11 fn Tryz.func11 (by kernel_rfl) (c:=body) (by kernel_rfl) [.val,.winv 130] (oz V l)
 (fun ps r e p h hp=>by
  unfold oz at h
  split at h
  ·split at h<;>cases h
   exact⟨rfl,fun b hb=>by simp only[bI,aW.blk,List.append_nil,List.nil_append,List.mem_singleton] at hb;rw[hb]⟩
  ·cases h)
 (fun ps r e p cap h hp hi=>by
  unfold oz at h
  split at h
  ·split at h<;>cases h
   rename_i k hk
   have:=aT.ok _ _ hk
   subst this
   obtain⟨p0,p1,p2,p3,p4,p5⟩:=hp
   subst p1
   have q:=(show _∧_ from⟨p5.1,p5.2.1⟩)
   exact Runs.mono (run V hV l _ _ _ k p2 p3 p0 p4) (fun _ _ _ h=>oM (chQ_pos q.1 q.2) h)
  ·cases h)
end rch
namespace smc
noncomputable abbrev fn:=Tryz.f13
noncomputable def body:Code:=cu fn
noncomputable def L:Code:=cL (cB (cs2 (cs1 (bU 2 body))))
noncomputable def A1:Code:=cs1 (cs1 (bU 2 body))
noncomputable def D:Code:=cs2 (bU 2 body)
theorem fZ:bU 2 body= .seq (.seq A1 (.block 0 (.loop L))) D:=by kernel_rfl
noncomputable def Γ {G:Glob}:Cons Tryz.prog G:=[]
def M0 (n c d:Nat):List (Option SV):=aH 26 0 [(0,.o (.a (.sld 0 0 0 n c))),(1,.o (.a (.sld 1 0 0 n d)))]
def M1 (n c d:Nat) (j:Int):List (Option SV):=aH 26 0 [(0,.o (.a (.sld 0 0 0 n c))),(1,.o (.a (.sld 1 0 0 n d))),(12,.o (.a (.v (.int .i64 n)))),(13,.o (.a (.v (.int .i64 j))))]
def ME:List (Option SV):=aH 26 0 []
def MZ:List (Option SV):=aH 26 0 [(4,.o (.a (ig true)))]
def mem (l:List Cert) (ty ty':TypeId):List Blk:=[⟨false,ty,.prv (aK l)⟩,⟨false,ty',.prv (aK l)⟩]
theorem jN (l:List Cert) (n c d:Nat) (ty ty':TypeId):oI (M0 n c d) (mem l ty ty'):=by delta oI;kernel_rfl
theorem eY (l:List Cert) (n c d:Nat) (ty ty':TypeId) (j:Int):oI (M1 n c d j) (mem l ty ty'):=by delta oI;kernel_rfl
theorem idsE (l:List Cert) (ty ty':TypeId):oI (ME) (mem l ty ty'):=by delta oI;kernel_rfl
theorem idsZ (l:List Cert) (ty ty':TypeId):oI (MZ) (mem l ty ty'):=by delta oI;kernel_rfl
section
variable {G:Glob} (l:List Cert) (n c d:Nat) (ty ty':TypeId)
theorem s0:oX (Γ (G:=G)) 100 (dY 2 body) (aF fn [.o (.a (.sld 0 0 0 n c)),.o (.a (.sld 1 0 0 n d))]) (mem l ty ty') [(10,[.b false])] .normal (M0 n c d) (mem l ty ty') [(!((n:Int)==n))=false]:=by delta oX;kernel_rfl
theorem a1 (g:Nat→SV):oX (Γ (G:=G)) 100 A1 (fill g 0 (M0 n c d )) (mem l ty ty') [] .normal (M1 n c d 0) (mem l ty ty') []:=by delta oX;kernel_rfl
theorem stp (j j':Int) (x:Cert) (g:Nat→SV):oX (Γ (G:=G)) 100 L (fill g 0 (M1 n c d j)) (mem l ty ty') [(14,[.b true]),(19,[.ds (bK.enc x)]),(23,[.ds (bK.enc x)]),(24,[.b false]),(25,[.n j'])] .normal (M1 n c d j') (mem l ty ty') [decide (j<n)=true,0≤j,j<n,(0+aS 0 j 130)+130≤(aK l).length,SV.o (.g (bT (aK l) (0+aS 0 j 130) 130))=bK.enc x,0≤j,j<n,(0+aS 0 j 130)+130≤(aK l).length,SV.o (.g (bT (aK l) (0+aS 0 j 130) 130))=bK.enc x,qL Tryz.prog 39 (.u64::(List.replicate 64 .u8++ .u64::List.replicate 64 .u8)),(!(sameK x.to))=false,IntKind.i64.wrap (j+1)=j']:=by delta oX;kernel_rfl
theorem out (j:Int) (g:Nat→SV):oX (Γ (G:=G)) 100 L (fill g 0 (M1 n c d j)) (mem l ty ty') [(14,[.b false])] (.exit 0) (ME) (mem l ty ty') [decide (j<n)=false]:=by delta oX;kernel_rfl
end
theorem fin {G:Glob} (l:List Cert) (n c d:Nat) (ty ty':TypeId) (g:Nat→SV):oX (Γ (G:=G)) 100 D (fill g 0 (ME )) (mem l ty ty') [] .ret (MZ) (mem l ty ty') []:=by delta oX;kernel_rfl
theorem zr (l:List Cert) (ty ty':TypeId) (g:Nat→SV):eRes tys (fill g 0 (MZ )) (fun q=>(mem l ty ty' )[q]?) fn.results.toList=some [.a (ig true)]:=by kernel_rfl
theorem run {G:Glob} (l:List Cert) (n c d:Nat) (ty ty':TypeId) (hn:l.length=n) (hm:n<9223372036854775807):aL Tryz.prog G 2 body (aF fn [.o (.a (.sld 0 0 0 n c)),.o (.a (.sld 1 0 0 n d))]) (mem l ty ty' ) (aM tys fn (bF (aV.enc true) .none)):=by
 have hl:(aK l).length=n*130:=by rw[←hn];exact fQ Cert.iM l
 refine Runs.bV ah mixed 2 (s0 l n c d ty ty' ) ⟨by simp,trivial⟩ (jN l n c d ty ty' ) rfl fun g=> ?_
 rw[fZ]
 refine Runs.seq (Runs.seq (Runs.au ah mixed (a1 l n c d ty ty' g) trivial (eY l n c d ty ty' 0) rfl fun g=> ?_))
 refine Runs.block ?_
 refine Runs.dL (fun(i:Nat)=>M1 n c d (i:Int)) (fun i=>mem l ty ty' ) (fun i=>i≤n) (fun i=>n-i) ?_ 0 (Nat.zero_le _) g
 rintro i g hi
 by_cases hin:i=n
 ·refine Runs.au ah mixed (out l n c d ty ty' _ g) ⟨decide_eq_false (by omega),trivial⟩ (idsE l ty ty' ) rfl fun g=> ?_
  show aL _ _ _ _ _ _ _
  exact Runs.au ah mixed (fin l n c d ty ty' g) trivial (idsZ l ty ty' ) rfl fun g=>aM.ret (zr l ty ty' g) rfl
 ·have hb:i*130+130≤n*130:=by have:=Nat.mul_le_mul_right 130 (show i+1≤n by omega);omega
  have h1:0+aS 0 (i:Int) 130+130≤(aK l).length:=by rw[kL,hl];omega
  have h2:SV.o (.g (bT (aK l) (0+aS 0 (i:Int) 130) 130))=bK.enc (l.getD i zc):=by rw[kL];exact ld_cert l (by omega)
  refine Runs.au ah mixed (stp l n c d ty ty' (i:Int) ((i+1:Nat):Int) (l.getD i zc) g) ⟨decide_eq_true (by omega),by omega,by omega,h1,h2,by omega,by omega,h1,h2,flat_cert,by rw[vL];rfl,by rw[IntKind.wrap_i64];omega,trivial⟩ (eY l n c d ty ty' _) rfl fun g=> ?_
  exact⟨i+1,g,rfl,rfl,by omega,by omega⟩
def spec (l:List Cert):List aW→Option (SV × dx × Cst)
 | [.winv _ vs n ty,.winv _ ws m ty']=>some (aV.enc true,.none,[vs=aK l,ws=aK l,l.length=n,m=n,n<9223372036854775807])
 | _=>none
noncomputable def con {G:Glob} (l:List Cert):Con Tryz.prog G:=Con.parts ah 13 fn Tryz.func13 (by kernel_rfl) (c:=body) (by kernel_rfl) [.winv 130,.winv 130] (spec l)
 (fun ps r e p h hp=>by
  unfold spec at h
  split at h<;>cases h
  exact⟨rfl,fun b hb=>by simp only[bI,aW.blk,List.append_nil,List.cons_append,List.nil_append,List.mem_cons,List.not_mem_nil,or_false] at hb;rcases hb with rfl | rfl<;>rfl⟩)
 (fun ps r e p cap h hp hi=>by
  unfold spec at h
  split at h<;>cases h
  obtain⟨p1,p2,p3,p4,p5,_⟩:=hp
  subst p1 p2 p4
  exact run l _ _ _ _ _ p3 p5)
end smc
namespace kcp
theorem tH (n:Nat) (h:n≤1000000):Room Tryz.prog 39 n:=by
 have h1:(Tryz.prog.info? 39).map (·.bytes)=some 144:=by kernel_rfl
 cases hq:Tryz.prog.info? 39 with
 | none=>rw[hq] at h1;cases h1
 | some j=>
  rw[hq] at h1
  have:j.bytes=144:=by simpa using h1
  exact⟨j,hq,by rw[this];omega,by omega⟩
def oz:List aW→Option (SV × dx × Cst)
 | [.winv _ vs n ty]=>some (.o (.a (.slg 0 n)),.new 39 (.grv 130 vs n none),[vs.length=n*130,0<n,n≤1000000])
 | _=>none
noncomputable def conP {G:Glob}:Con Tryz.prog G:=Con.parts ah 9 fn Tryz.func9 (by kernel_rfl) (c:=body) (by kernel_rfl) [.winv 130] oz
 (fun ps r e p h hp=>by
  unfold oz at h
  split at h<;>cases h
  exact⟨rfl,fun b hb=>by simp only[bI,aW.blk,List.append_nil,List.mem_singleton] at hb;rw[hb]⟩)
 (fun ps r e p cap h hp hi=>by
  unfold oz at h
  split at h<;>cases h
  rename_i vs n ty
  obtain⟨p1,p2,p3,_⟩:=hp
  refine Runs.aN ah mixed (exp vs n (cap 0) ty) ⟨by omega,p2,tH _ p3,trivial⟩ (aM.ret (resp vs n (cap 0) ty) ⟨2,rfl,?_⟩)
  rw[rowp,List.drop_zero,List.take_of_length_le (by omega)])
def sZ:List aW→Option (SV × dx × Cst)
 | [.winv _ vs n ty]=>some (.o (.a (.slc 0 0 0 0)),.new 39 (.lit []),[n=0])
 | [.val (.o (.a (.v (.slice none 0 0))))]=>some (.o (.a (.slc 0 0 0 0)),.new 39 (.lit []),[])
 | _=>none
noncomputable def conZ {G:Glob}:Con Tryz.prog G:=Con.parts ah 9 fn Tryz.func9 (by kernel_rfl) (c:=body) (by kernel_rfl) [.winv 130] sZ
 (fun ps r e p h hp=>by
  unfold sZ at h
  split at h<;>cases h
  ·exact⟨rfl,fun b hb=>by simp only[bI,aW.blk,List.append_nil,List.mem_singleton] at hb;rw[hb]⟩
  ·exact⟨rfl,fun b hb=>by cases hb⟩)
 (fun ps r e p cap h hp hi=>by
  unfold sZ at h
  split at h<;>cases h
  ·rename_i vs n ty
   obtain⟨p1,_⟩:=hp
   subst p1
   exact Runs.aN ah mixed (exz vs 0 (cap 0) ty) ⟨by omega,rfl,trivial⟩ (aM.ret (resz vs 0 (cap 0) ty) ⟨1,rfl,rowz _ _ _ _⟩)
  ·exact Runs.aN ah mixed exn ⟨rfl,trivial⟩ (aM.ret resn ⟨0,rfl,rown⟩))
end kcp
end Go.Proofs.YthlmepolmemejaaGreatDoor
