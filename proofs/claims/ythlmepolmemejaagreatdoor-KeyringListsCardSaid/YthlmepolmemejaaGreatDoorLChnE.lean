/- Chain of both sides: contracts; SameCerts: walk, contract. -/
import Derived.Test.YthlmepolmemejaaGreatDoorLFo
import Derived.Test.YthlmepolmemejaaGreatDoorLChnD
set_option linter.unusedSimpArgs false
set_option linter.unusedVariables false
namespace Go.Proofs.YthlmepolmemejaaGreatDoor
open Go Go.Eng Go.RowKit
set_option maxRecDepth 100000
theorem kJ {T:Ty} {fn:Func} {Q Q':SV→List Blk→Prop} (h:∀r m,Q r m→Q' r m) {e:Ex} {t:List SV} {m:List Blk}:aN T fn Q e t m→aN T fn Q' e t m:=fun⟨a,l,b,c⟩=>⟨a,l,b,h _ _ c⟩
section
variable {V:Keys→Cert→Int} {l:List Cert} {k:Keys}
theorem chQ_err {n:Nat} (h:gT V l k n≠0) (r:SV) (m:List Blk):chQ V l k n r m→bA (chE (gT V l k n)) .none r m:=fun q=>by
 rcases q with q | q | q
 ·exact q.2
 ·exact absurd q.1 h
 ·exact absurd q.1 h
theorem chQ_zero (r:SV) (m:List Blk):chQ V l k 0 r m→bA chZ (.new 28 (.lit k.row)) r m:=fun q=>by
 rcases q with q | q | q
 ·exact absurd rfl q.1
 ·exact q.2.2
 ·exact absurd q.2.1 (by omega)
theorem chQ_pos {n:Nat} (h:gT V l k n=0) (hn:0<n) (r:SV) (m:List Blk):chQ V l k n r m→bA (chP n) (.new 28 (.grv 65 (dL (kl l k n)) (n+1) none)) r m:=fun q=>by
 rcases q with q | q | q
 ·exact absurd h q.1
 ·exact absurd q.2.1 (by omega)
 ·exact q.2.2
end
namespace kch
def specE (V:Keys→Cert→Int) (l:List Cert):List aV→Option (SV × dh × Cst)
 | [.val v,.winv _ vs n ty]=>match aO.dec v with
  | some k=>some (chE (gT V l k n),.none,[vs=aA l,l.length=n,n≤1000000,∀i,i<n→COk (l.getD i zc),gT V l k n≠0])
  | none=>none
 | _=>none
noncomputable def conE (V:Keys→Cert→Int) (hV:V=ccV) (l:List Cert):Con Tryz.prog G3:=Con.parts ah 8 fn Tryz.func8 (by kernel_rfl) (c:=body) (by kernel_rfl) [.val,.winv 130] (specE V l)
 (fun ps r e p h hp=>by
  unfold specE at h
  split at h
  ·split at h<;>cases h
   exact⟨rfl,fun b hb=>by simp only[bG,aV.blk,List.append_nil,List.nil_append,List.mem_singleton] at hb;rw[hb]⟩
  ·cases h)
 (fun ps r e p cap h hp hi=>by
  unfold specE at h
  split at h
  ·split at h<;>cases h
   rename_i k hk
   have:=aO.ok _ _ hk
   subst this
   obtain⟨p1,p2,p3,p4,p5⟩:=hp
   subst p1
   have q:=p5.1
   exact Runs.mono (run V hV l _ _ _ k p2 p3 p4) (fun _ _ _ h=>kJ (chQ_err q) h)
  ·cases h)
def o9 (V:Keys→Cert→Int) (l:List Cert):List aV→Option (SV × dh × Cst)
 | [.val v,.winv _ vs n ty]=>match aO.dec v with
  | some k=>some (chZ,.new 28 (.lit k.row),[vs=aA l,l.length=n,n≤1000000,∀i,i<n→COk (l.getD i zc),n=0])
  | none=>none
 | _=>none
noncomputable def conZ (V:Keys→Cert→Int) (hV:V=ccV) (l:List Cert):Con Tryz.prog G3:=Con.parts ah 8 fn Tryz.func8 (by kernel_rfl) (c:=body) (by kernel_rfl) [.val,.winv 130] (o9 V l)
 (fun ps r e p h hp=>by
  unfold o9 at h
  split at h
  ·split at h<;>cases h
   exact⟨rfl,fun b hb=>by simp only[bG,aV.blk,List.append_nil,List.nil_append,List.mem_singleton] at hb;rw[hb]⟩
  ·cases h)
 (fun ps r e p cap h hp hi=>by
  unfold o9 at h
  split at h
  ·split at h<;>cases h
   rename_i k hk
   have:=aO.ok _ _ hk
   subst this
   obtain⟨p1,p2,p3,p4,p5⟩:=hp
   subst p1
   have q:=p5.1
   subst q
   exact Runs.mono (run V hV l _ _ _ k p2 p3 p4) (fun _ _ _ h=>kJ (chQ_zero) h)
  ·cases h)
def og (V:Keys→Cert→Int) (l:List Cert):List aV→Option (SV × dh × Cst)
 | [.val v,.winv _ vs n ty]=>match aO.dec v with
  | some k=>some (chP n,.new 28 (.grv 65 (dL (kl l k n)) (n+1) none),[vs=aA l,l.length=n,n≤1000000,∀i,i<n→COk (l.getD i zc),gT V l k n=0,0<n])
  | none=>none
 | _=>none
noncomputable def conP (V:Keys→Cert→Int) (hV:V=ccV) (l:List Cert):Con Tryz.prog G3:=Con.parts ah 8 fn Tryz.func8 (by kernel_rfl) (c:=body) (by kernel_rfl) [.val,.winv 130] (og V l)
 (fun ps r e p h hp=>by
  unfold og at h
  split at h
  ·split at h<;>cases h
   exact⟨rfl,fun b hb=>by simp only[bG,aV.blk,List.append_nil,List.nil_append,List.mem_singleton] at hb;rw[hb]⟩
  ·cases h)
 (fun ps r e p cap h hp hi=>by
  unfold og at h
  split at h
  ·split at h<;>cases h
   rename_i k hk
   have:=aO.ok _ _ hk
   subst this
   obtain⟨p1,p2,p3,p4,p5⟩:=hp
   subst p1
   have q:=(show _∧_ from⟨p5.1,p5.2.1⟩)
   exact Runs.mono (run V hV l _ _ _ k p2 p3 p4) (fun _ _ _ h=>kJ (chQ_pos q.1 q.2) h)
  ·cases h)
end kch
namespace rch
def specE (V:Keys→Cert→Int) (l:List Cert):List aV→Option (SV × dh × Cst)
 | [.val v,.winv _ vs n ty]=>match aO.dec v with
  | some k=>some (chE (gT V l k n),.none,[BOk k.sg,vs=aA l,l.length=n,n≤1000000,∀i,i<n→COk (l.getD i zc),gT V l k n≠0])
  | none=>none
 | _=>none
noncomputable def conE (V:Keys→Cert→Int) (hV:V=ccV) (l:List Cert):Con Tryz.prog G3:=Con.parts ah 11 fn Tryz.func11 (by kernel_rfl) (c:=body) (by kernel_rfl) [.val,.winv 130] (specE V l)
 (fun ps r e p h hp=>by
  unfold specE at h
  split at h
  ·split at h<;>cases h
   exact⟨rfl,fun b hb=>by simp only[bG,aV.blk,List.append_nil,List.nil_append,List.mem_singleton] at hb;rw[hb]⟩
  ·cases h)
 (fun ps r e p cap h hp hi=>by
  unfold specE at h
  split at h
  ·split at h<;>cases h
   rename_i k hk
   have:=aO.ok _ _ hk
   subst this
   obtain⟨p0,p1,p2,p3,p4,p5⟩:=hp
   subst p1
   have q:=p5.1
   exact Runs.mono (run V hV l _ _ _ k p2 p3 p0 p4) (fun _ _ _ h=>kJ (chQ_err q) h)
  ·cases h)
def o9 (V:Keys→Cert→Int) (l:List Cert):List aV→Option (SV × dh × Cst)
 | [.val v,.winv _ vs n ty]=>match aO.dec v with
  | some k=>some (chZ,.new 28 (.lit k.row),[BOk k.sg,vs=aA l,l.length=n,n≤1000000,∀i,i<n→COk (l.getD i zc),n=0])
  | none=>none
 | _=>none
noncomputable def conZ (V:Keys→Cert→Int) (hV:V=ccV) (l:List Cert):Con Tryz.prog G3:=Con.parts ah 11 fn Tryz.func11 (by kernel_rfl) (c:=body) (by kernel_rfl) [.val,.winv 130] (o9 V l)
 (fun ps r e p h hp=>by
  unfold o9 at h
  split at h
  ·split at h<;>cases h
   exact⟨rfl,fun b hb=>by simp only[bG,aV.blk,List.append_nil,List.nil_append,List.mem_singleton] at hb;rw[hb]⟩
  ·cases h)
 (fun ps r e p cap h hp hi=>by
  unfold o9 at h
  split at h
  ·split at h<;>cases h
   rename_i k hk
   have:=aO.ok _ _ hk
   subst this
   obtain⟨p0,p1,p2,p3,p4,p5⟩:=hp
   subst p1
   have q:=p5.1
   subst q
   exact Runs.mono (run V hV l _ _ _ k p2 p3 p0 p4) (fun _ _ _ h=>kJ (chQ_zero) h)
  ·cases h)
def og (V:Keys→Cert→Int) (l:List Cert):List aV→Option (SV × dh × Cst)
 | [.val v,.winv _ vs n ty]=>match aO.dec v with
  | some k=>some (chP n,.new 28 (.grv 65 (dL (kl l k n)) (n+1) none),[BOk k.sg,vs=aA l,l.length=n,n≤1000000,∀i,i<n→COk (l.getD i zc),gT V l k n=0,0<n])
  | none=>none
 | _=>none
noncomputable def conP (V:Keys→Cert→Int) (hV:V=ccV) (l:List Cert):Con Tryz.prog G3:=Con.parts ah 11 fn Tryz.func11 (by kernel_rfl) (c:=body) (by kernel_rfl) [.val,.winv 130] (og V l)
 (fun ps r e p h hp=>by
  unfold og at h
  split at h
  ·split at h<;>cases h
   exact⟨rfl,fun b hb=>by simp only[bG,aV.blk,List.append_nil,List.nil_append,List.mem_singleton] at hb;rw[hb]⟩
  ·cases h)
 (fun ps r e p cap h hp hi=>by
  unfold og at h
  split at h
  ·split at h<;>cases h
   rename_i k hk
   have:=aO.ok _ _ hk
   subst this
   obtain⟨p0,p1,p2,p3,p4,p5⟩:=hp
   subst p1
   have q:=(show _∧_ from⟨p5.1,p5.2.1⟩)
   exact Runs.mono (run V hV l _ _ _ k p2 p3 p0 p4) (fun _ _ _ h=>kJ (chQ_pos q.1 q.2) h)
  ·cases h)
end rch
namespace kcp
theorem roomC (n:Nat) (h:n≤1000000):Room Tryz.prog 39 n:=by
 have h1:(Tryz.prog.info? 39).map (·.bytes)=some 144:=by kernel_rfl
 cases hq:Tryz.prog.info? 39 with
 | none=>rw[hq] at h1;cases h1
 | some j=>
  rw[hq] at h1
  have:j.bytes=144:=by simpa using h1
  exact⟨j,hq,by rw[this];omega,by omega⟩
def og:List aV→Option (SV × dh × Cst)
 | [.winv _ vs n ty]=>some (.o (.a (.slg 0 n)),.new 39 (.grv 130 vs n none),[vs.length=n*130,0<n,n≤1000000])
 | _=>none
noncomputable def conP {G:Glob}:Con Tryz.prog G:=Con.parts ah 9 fn Tryz.func9 (by kernel_rfl) (c:=body) (by kernel_rfl) [.winv 130] og
 (fun ps r e p h hp=>by
  unfold og at h
  split at h<;>cases h
  exact⟨rfl,fun b hb=>by simp only[bG,aV.blk,List.append_nil,List.mem_singleton] at hb;rw[hb]⟩)
 (fun ps r e p cap h hp hi=>by
  unfold og at h
  split at h<;>cases h
  rename_i vs n ty
  obtain⟨p1,p2,p3,_⟩:=hp
  refine Runs.aQ ah mixed (exp vs n (cap 0) ty) ⟨by omega,p2,roomC _ p3,trivial⟩ (aN.ret (resp vs n (cap 0) ty) ⟨2,rfl,?_⟩)
  rw[rowp,List.drop_zero,List.take_of_length_le (by omega)])
def o9:List aV→Option (SV × dh × Cst)
 | [.winv _ vs n ty]=>some (.o (.a (.slc 0 0 0 0)),.new 39 (.lit []),[n=0])
 | [.val (.o (.a (.v (.slice none 0 0))))]=>some (.o (.a (.slc 0 0 0 0)),.new 39 (.lit []),[])
 | _=>none
noncomputable def conZ {G:Glob}:Con Tryz.prog G:=Con.parts ah 9 fn Tryz.func9 (by kernel_rfl) (c:=body) (by kernel_rfl) [.winv 130] o9
 (fun ps r e p h hp=>by
  unfold o9 at h
  split at h<;>cases h
  ·exact⟨rfl,fun b hb=>by simp only[bG,aV.blk,List.append_nil,List.mem_singleton] at hb;rw[hb]⟩
  ·exact⟨rfl,fun b hb=>by cases hb⟩)
 (fun ps r e p cap h hp hi=>by
  unfold o9 at h
  split at h<;>cases h
  ·rename_i vs n ty
   obtain⟨p1,_⟩:=hp
   subst p1
   exact Runs.aQ ah mixed (exz vs 0 (cap 0) ty) ⟨by omega,rfl,trivial⟩ (aN.ret (resz vs 0 (cap 0) ty) ⟨1,rfl,rowz _ _ _ _⟩)
  ·exact Runs.aQ ah mixed exn ⟨rfl,trivial⟩ (aN.ret resn ⟨0,rfl,rown⟩))
end kcp
end Go.Proofs.YthlmepolmemejaaGreatDoor
