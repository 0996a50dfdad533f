/- Packages tree, beaconref11: halves of nodes: contracts. -/
import Derived.Test.YtdccehmekkcheaaDoorCFo
import Derived.Test.YtdccehmekkcheaaDoorCMTB
set_option linter.unusedSimpArgs false
set_option linter.unusedVariables false
namespace Go.Proofs.YtdccehmekkcheaaDoor
open Go Go.Eng Go.RowKit
set_option maxRecDepth 100000
theorem advS_eq {c k:Nat} (h:k<c):iU c k 0 65=k*65:=by
 unfold iU
 rw[if_neg (by omega),Nat.zero_add]
theorem sG {l:List Nd} {c k:Nat} (h:Halves l c k):MonoB l c k:=⟨Nat.le_of_lt h.kl,h.left,h.right⟩
theorem ql (l:List Nd) {i n:Nat} (hn:l.length=n) (hi:i<n):0+(aN 0 (i:Int) 65+1)+32≤(ah l).length∧SV.o (.g (bn (ah l) (0+(aN 0 (i:Int) 65+1)) 32))=ay.enc (l.getD i zn).pre:=by
 have hl:(ah l).length=n*65:=by rw[←hn];exact bH l
 have hb:i*65+65≤n*65:=by have:=Nat.mul_le_mul_right 65 (show i+1≤n by omega);omega
 have ho:0+(aN 0 (i:Int) 65+1)=i*65+1:=by rw[kY];simp
 rw[ho]
 exact⟨by omega,ld_pre l (by omega)⟩
namespace spl
theorem run (l:List Nd) (n c:Nat) (ty:TypeId) (hn:l.length=n) (hm:n<bK) (h2:2≤n) (hc:n≤c) (hok:bg l) (hap:bC l=true):
  aF Tryd.prog GT 1 body (aK fn [.o (.a (.sld 0 0 0 n c))]) [⟨false,ty,.prv (ah l)⟩] (aH tys fn (bJ (.t [.a (.sld 0 0 0 (aR l (aM l)) c),.a (.sld 0 0 (aR l (aM l)*65) (n-aR l (aM l)) (c-aR l (aM l))),.a (aG .i64 (aM l:Nat))]) .none)):=by
 have hA:=(gF hok).1 hap
 have hs:=halves hA (by omega)
 have k0:=hs.k0
 have kl:=hs.kl
 have c256:=hs.c256
 have hl:(ah l).length=n*65:=by rw[←hn];exact bH l
 have hY:=dtn hn
 obtain⟨a1,a2⟩:=ql l hn (show 0<n by omega)
 obtain⟨b1,b2⟩:=ql l hn (show n-1<n by omega)
 have hw:IntKind.i64.wrap ((n:Int)-1)=((n-1:Nat):Int):=by unfold bK at hm;rw[IntKind.wrap_i64];omega
 have ok0:=hok.at (show 0<l.length by omega)
 have ok1:=hok.at (show n-1<l.length by omega)
 refine Runs.au aj mixed (s l n c ty (aR l (aM l)) (aR l (aM l)*65) ((n-1:Nat):Int) (aM l:Nat) (l.getD 0 zn).pre (l.getD (n-1) zn).pre)
  ⟨by omega,by omega,a1,a2,hw,by omega,by omega,b1,b2,ok0.1,ok1.1,by rw[show n-1=l.length-1 by omega];rfl,by omega,by rw[hY,bE],by rw[hY,bE];exact hn,rfl,hm,by omega,by omega,
   by rw[hY,bE];exact hok,by rw[hY,bE];exact sG hs,by rw[hY,bE];rfl,by omega,by omega,by omega,by omega,by omega,by omega,by rw[advS_eq (by omega)],trivial⟩ (ids _ _ _ _ _ _ _) rfl fun g=>aH.ret (zr _ _ _ _ _ _ _ g) rfl
def spec (ys:List Value) (n c:Nat):List SV→Option (SV × Cst)
 | []=>some (.t [.a (.sld 0 0 0 (aR (ak ys) (aM (ak ys))) c),.a (.sld 0 0 (aR (ak ys) (aM (ak ys))*65) (n-aR (ak ys) (aM (ak ys))) (c-aR (ak ys) (aM (ak ys)))),.a (aG .i64 (aM (ak ys):Nat))],[ys=ah (ak ys),(ak ys).length=n,n<bK,2≤n,bg (ak ys),bC (ak ys)=true])
 | _=>none
noncomputable def con:Con Tryd.prog GT:=Con.win aj 79 fn Tryd.func79 (by kernel_rfl) (c:=body) (by kernel_rfl) 65 spec
 (fun ys n cp rest r p h=>by
  unfold spec at h
  split at h<;>cases h
  rfl)
 (fun ys n cp ty rest r p h hp hl hc hr=>by
  unfold spec at h
  split at h<;>cases h
  obtain⟨p1,p2,p3,p4,p5,p6,_⟩:=hp
  have q:=run (ak ys) n cp ty p2 p3 p4 hc p5 p6
  rw[←p1] at q
  exact q)
end spl
namespace hlv
theorem run (l:List Nd) (n c k:Nat) (v:Int) (ty:TypeId) (hn:l.length=n) (hm:n<bK) (hc:n≤c) (v0:0≤v) (v1:v<256) (hok:bg l) (hk:MonoB l v.toNat k) (hkn:k<n):
  aF Tryd.prog GT 1 body (aK fn [.o (.a (.sld 0 0 0 n c)),.o (.a (aG .i64 v))]) [⟨false,ty,.prv (ah l)⟩] (aH tys fn (bJ (.t [.a (.sld 0 0 0 k c),.a (.sld 0 0 (k*65) (n-k) (c-k))]) .none)):=by
 unfold bK at hm
 have done:∀g,aF Tryd.prog GT 1 D (fill g 0 (M l n c ty v (k:Int))) (mem l ty) (aH tys fn (bJ (.t [.a (.sld 0 0 0 k c),.a (.sld 0 0 (k*65) (n-k) (c-k))]) .none)):=fun g=>
  Runs.au aj mixed (fin l n c ty v k (k*65) g) ⟨by omega,by omega,by omega,by omega,by omega,by omega,by rw[advS_eq (by omega)],trivial⟩ (iM _ _ _ _ _ _) rfl fun g=>aH.ret (zr _ _ _ _ _ _ g) rfl
 refine Runs.dz aj mixed 2 (s0 l n c ty v) trivial (ids _ _ _ _ _ _) rfl fun g=> ?_
 rw[dJ]
 refine Runs.seq (Runs.block ?_)
 refine Runs.dA (fun(i:Nat)=>M l n c ty v (i:Int)) (fun _=>mem l ty) (fun i=>i≤k) (fun i=>k-i) ?_ 0 (Nat.zero_le _) g
 rintro i g hi
 obtain⟨a1,a2⟩:=ql l hn (show i<n by omega)
 have oki:=hok.at (show i<l.length by omega)
 rcases Nat.lt_or_ge i k with h | h
 ·have hb:=hk.no i h
  refine Runs.au aj mixed (stp l n c ty v _ ((i+1:Nat):Int) _ _ g) ⟨decide_eq_true (by omega),by omega,by omega,a1,a2,v0,v1,oki.1,rfl,by unfold jS;rw[hb];rfl,by rw[IntKind.wrap_i64];omega,trivial⟩ (ids _ _ _ _ _ _) rfl fun g=> ?_
  exact⟨i+1,g,rfl,rfl,by omega,by omega⟩
 ·obtain rfl:i=k:=by omega
  have hb:=hk.yes i (Nat.le_refl _) (by omega)
  refine Runs.au aj mixed (hit l n c ty v _ _ _ g) ⟨decide_eq_true (by omega),by omega,by omega,a1,a2,v0,v1,oki.1,rfl,by unfold jS;rw[hb];rfl,trivial⟩ (ids _ _ _ _ _ _) rfl fun g=> ?_
  show aF _ _ _ _ _ _ _
  exact done g
def spec (ys:List Value) (n c:Nat):List SV→Option (SV × Cst)
 | [.o (.a (.v (.int .i64 v)))]=>some (.t [.a (.sld 0 0 0 (aR (ak ys) v.toNat) c),.a (.sld 0 0 (aR (ak ys) v.toNat*65) (n-aR (ak ys) v.toNat) (c-aR (ak ys) v.toNat))],[ys=ah (ak ys),(ak ys).length=n,n<bK,0≤v,v<256,bg (ak ys),MonoB (ak ys) v.toNat (aR (ak ys) v.toNat),aR (ak ys) v.toNat<n])
 | _=>none
noncomputable def con:Con Tryd.prog GT:=Con.win aj 82 fn Tryd.func82 (by kernel_rfl) (c:=body) (by kernel_rfl) 65 spec
 (fun ys n cp rest r p h=>by
  unfold spec at h
  split at h<;>cases h
  rfl)
 (fun ys n cp ty rest r p h hp hl hc hr=>by
  unfold spec at h
  split at h<;>cases h
  obtain⟨p1,p2,p3,p4,p5,p6,p7,p8,_⟩:=hp
  have q:=run (ak ys) n cp _ _ ty p2 p3 hc p4 p5 p6 p7 p8
  rw[←p1] at q
  exact q)
end hlv
noncomputable def hV (a b:Nd):B32:=shaV (innB a b)
theorem gW (a b:Nd):BOk (hV a b):=sha_ok _
namespace tjn
noncomputable abbrev fn:=Tryd.f60
noncomputable def body:Code:=d9 fn
def IH (H:Nd→Nd→B32) (N:Nat):Prop:=∀(l:List Nd) (n c:Nat) (ty:TypeId),l.length=n→n<N→1≤n→n≤c→bg l→bC l=true→
 aF Tryd.prog GT 1 body (aK fn [.o (.a (.sld 0 0 0 n c))]) [⟨false,ty,.prv (ah l)⟩] (aH tys fn (bJ (cNd.enc (bD H l)) .none))
def spec (H:Nd→Nd→B32) (N:Nat):List aU→Option (SV × dH × Cst)
 | [.winv _ vs n ty]=>some (cNd.enc (bD H (ak vs)),.none,[vs=ah (ak vs),(ak vs).length=n,n<N,1≤n,bg (ak vs),bC (ak vs)=true])
 | _=>none
noncomputable def con (H:Nd→Nd→B32) (N:Nat) (ih:IH H N):Con Tryd.prog GT:=Con.parts aj 60 fn Tryd.func60 (by kernel_rfl) (c:=body) (by kernel_rfl) [.winv 65] (spec H N)
 (fun ps r e p h hp=>by
  unfold spec at h
  split at h<;>cases h
  exact⟨rfl,fun b hb=>by simp only[bf,aU.blk,List.append_nil,List.nil_append,List.mem_singleton] at hb;rw[hb]⟩)
 (fun ps r e p cap h hp hi=>by
  unfold spec at h
  split at h<;>cases h
  rename_i s vs n ty
  obtain⟨p1,p2,p3,p4,p5,p6,_⟩:=hp
  obtain⟨⟨_,hcap⟩,_⟩:=hi
  have q:=ih (ak vs) n (cap 0) ty p2 p3 p4 hcap p5 p6
  rw[←p1] at q
  exact q)
noncomputable def Γ (H:Nd→Nd→B32) (N:Nat) (ih:IH H N):Cons Tryd.prog GT:=[con H N ih,spl.con,tfst.con,tinn.con,S3.s256_con]
def M:List (Option SV):=aD 32 0 [(2,.o (.a (.ptr 1 0)))]
def mem (l:List Nd) (ty:TypeId) (z:Nd):List Blk:=[⟨false,ty,.prv (ah l)⟩,⟨true,33,.lit z.row⟩]
theorem ids (l:List Nd) (ty:TypeId) (z:Nd):oI M (mem l ty z):=by delta oI;kernel_rfl
section
variable (H:Nd→Nd→B32) (N:Nat) (ih:IH H N) (l:List Nd) (n c:Nat) (ty:TypeId)
theorem one (x:Nd):oX (Γ H N ih) 100 body (aK fn [.o (.a (.sld 0 0 0 n c))]) [⟨false,ty,.prv (ah l)⟩] [(8,[.b true]),(11,[.ds (cNd.enc x)])] .ret M (mem l ty x) [((n:Int)==1)=true,0≤(0:Int),(0:Int)<n,0+aN 0 (0:Int) 65+65≤(ah l).length,SV.o (.g (bn (ah l) (0+aN 0 (0:Int) 65) 65))=cNd.enc x]:=by delta oX;kernel_rfl
theorem two (k o:Nat) (v:Int) (a f h:B32) (x y:Nd):oX (Γ H N ih) 100 body (aK fn [.o (.a (.sld 0 0 0 n c))]) [⟨false,ty,.prv (ah l)⟩] [(8,[.b false]),(14,[.s (.t [.a (.sld 0 0 0 k c),.a (.sld 0 0 o (n-k) (c-k)),.a (aG .i64 v)])]),(22,[.ds (ay.enc a)]),(24,[.s (ay.enc f)]),(26,[.s (cNd.enc x)]),(28,[.s (cNd.enc y)]),(30,[.s (ay.enc h)])] .ret M (mem l ty ⟨v,f,h⟩) [((n:Int)==1)=false,0+0+n*65≤(ah l).length,n≤c,((ah l).drop (0+0)).take (n*65)=ah (ak (((ah l).drop (0+0)).take (n*65))),(ak (((ah l).drop (0+0)).take (n*65))).length=n,n<bK,2≤n,bg (ak (((ah l).drop (0+0)).take (n*65))),bC (ak (((ah l).drop (0+0)).take (n*65)))=true,SV.t [.a (.sld 0 0 0 (aR (ak (((ah l).drop (0+0)).take (n*65))) (aM (ak (((ah l).drop (0+0)).take (n*65))))) c),.a (.sld 0 0 (0+(0+(aR (ak (((ah l).drop (0+0)).take (n*65))) (aM (ak (((ah l).drop (0+0)).take (n*65)))))*65)) (n-(aR (ak (((ah l).drop (0+0)).take (n*65))) (aM (ak (((ah l).drop (0+0)).take (n*65)))))) (c-(aR (ak (((ah l).drop (0+0)).take (n*65))) (aM (ak (((ah l).drop (0+0)).take (n*65))))))),.a (aG .i64 (aM (ak (((ah l).drop (0+0)).take (n*65))):Nat))]=SV.t [.a (.sld 0 0 0 k c),.a (.sld 0 0 o (n-k) (c-k)),.a (aG .i64 v)],0≤(0:Int),(0:Int)<n,0+(aN 0 (0:Int) 65+1)+32≤(ah l).length,SV.o (.g (bn (ah l) (0+(aN 0 (0:Int) 65+1)) 32))=ay.enc a,BOk a,0≤v,v≤256,ay.enc (eT a v.toNat)=ay.enc f,0+0+k*65≤(ah l).length,k≤c,((ah l).drop (0+0)).take (k*65)=ah (ak (((ah l).drop (0+0)).take (k*65))),(ak (((ah l).drop (0+0)).take (k*65))).length=k,k<N,1≤k,bg (ak (((ah l).drop (0+0)).take (k*65))),bC (ak (((ah l).drop (0+0)).take (k*65)))=true,cNd.enc (bD H (ak (((ah l).drop (0+0)).take (k*65))))=cNd.enc x,0+o+(n-k)*65≤(ah l).length,(n-k)≤(c-k),((ah l).drop (0+o)).take ((n-k)*65)=ah (ak (((ah l).drop (0+o)).take ((n-k)*65))),(ak (((ah l).drop (0+o)).take ((n-k)*65))).length=(n-k),(n-k)<N,1≤(n-k),bg (ak (((ah l).drop (0+o)).take ((n-k)*65))),bC (ak (((ah l).drop (0+o)).take ((n-k)*65)))=true,cNd.enc (bD H (ak (((ah l).drop (0+o)).take ((n-k)*65))))=cNd.enc y,0+133≤133,133≤133,ay.enc (S3.finB (S3.dQ S3.S0 (((innB x y).drop 0).take 133)))=ay.enc h]:=by delta oX;kernel_rfl
end
theorem zr (l:List Nd) (ty:TypeId) (z:Nd) (g:Nat→SV):eRes tys (fill g 0 M) (fun k=>(mem l ty z)[k]?) fn.results.toList=some [.g z.row]:=by kernel_rfl
end tjn
namespace rov
noncomputable abbrev fn:=Tryd.f65
noncomputable def body:Code:=d9 fn
def IH (H:Nd→Nd→B32) (N:Nat):Prop:=∀(l:List Nd) (n c:Nat) (ty:TypeId),l.length=n→n<N→1≤n→n≤c→bg l→bC l=true→
 aF Tryd.prog GT 1 body (aK fn [.o (.a (.sld 0 0 0 n c))]) [⟨false,ty,.prv (ah l)⟩] (aH tys fn (bJ (cNd.enc (bD H l)) .none))
def spec (H:Nd→Nd→B32) (N:Nat):List aU→Option (SV × dH × Cst)
 | [.winv _ vs n ty]=>some (cNd.enc (bD H (ak vs)),.none,[vs=ah (ak vs),(ak vs).length=n,n<N,1≤n,bg (ak vs),bC (ak vs)=true])
 | _=>none
noncomputable def con (H:Nd→Nd→B32) (N:Nat) (ih:IH H N):Con Tryd.prog GT:=Con.parts aj 65 fn Tryd.func65 (by kernel_rfl) (c:=body) (by kernel_rfl) [.winv 65] (spec H N)
 (fun ps r e p h hp=>by
  unfold spec at h
  split at h<;>cases h
  exact⟨rfl,fun b hb=>by simp only[bf,aU.blk,List.append_nil,List.nil_append,List.mem_singleton] at hb;rw[hb]⟩)
 (fun ps r e p cap h hp hi=>by
  unfold spec at h
  split at h<;>cases h
  rename_i s vs n ty
  obtain⟨p1,p2,p3,p4,p5,p6,_⟩:=hp
  obtain⟨⟨_,hcap⟩,_⟩:=hi
  have q:=ih (ak vs) n (cap 0) ty p2 p3 p4 hcap p5 p6
  rw[←p1] at q
  exact q)
noncomputable def Γ (H:Nd→Nd→B32) (N:Nat) (ih:IH H N):Cons Tryd.prog GT:=[con H N ih,rcom.con,hlv.con,rfst.con,rinn.con,S3.r256_con]
def M:List (Option SV):=aD 45 0 [(2,.o (.a (.ptr 1 0)))]
def mem (l:List Nd) (ty:TypeId) (z:Nd):List Blk:=[⟨false,ty,.prv (ah l)⟩,⟨true,33,.lit z.row⟩]
theorem ids (l:List Nd) (ty:TypeId) (z:Nd):oI M (mem l ty z):=by delta oI;kernel_rfl
section
variable (H:Nd→Nd→B32) (N:Nat) (ih:IH H N) (l:List Nd) (n c:Nat) (ty:TypeId)
theorem one (x:Nd):oX (Γ H N ih) 100 body (aK fn [.o (.a (.sld 0 0 0 n c))]) [⟨false,ty,.prv (ah l)⟩] [(10,[.b true]),(13,[.ds (cNd.enc x)])] .ret M (mem l ty x) [((n:Int)==1)=true,0≤(0:Int),(0:Int)<n,0+aN 0 (0:Int) 65+65≤(ah l).length,SV.o (.g (bn (ah l) (0+aN 0 (0:Int) 65) 65))=cNd.enc x]:=by delta oX;kernel_rfl
theorem two (k o:Nat) (m v:Int) (a b f h:B32) (x y:Nd):oX (Γ H N ih) 100 body (aK fn [.o (.a (.sld 0 0 0 n c))]) [⟨false,ty,.prv (ah l)⟩] [(10,[.b false]),(17,[.ds (ay.enc a)]),(21,[.n m]),(24,[.ds (ay.enc b)]),(27,[.s (.o (.a (aG .i64 v)))]),(31,[.s (.t [.a (.sld 0 0 0 k c),.a (.sld 0 0 o (n-k) (c-k))])]),(37,[.s (ay.enc f)]),(39,[.s (cNd.enc x)]),(41,[.s (cNd.enc y)]),(43,[.s (ay.enc h)])] .ret M (mem l ty ⟨v,f,h⟩) [((n:Int)==1)=false,0≤(0:Int),(0:Int)<n,0+(aN 0 (0:Int) 65+1)+32≤(ah l).length,SV.o (.g (bn (ah l) (0+(aN 0 (0:Int) 65+1)) 32))=ay.enc a,IntKind.i64.wrap ((n:Int)-1)=m,0≤m,m<n,0+(aN 0 m 65+1)+32≤(ah l).length,SV.o (.g (bn (ah l) (0+(aN 0 m 65+1)) 32))=ay.enc b,BOk a,BOk b,0≤(256:Int),(256:Int)≤256,(aQ .i64).enc ((min (256:Int).toNat (bN a b):Nat):Int)=(aQ .i64).enc v,0+0+n*65≤(ah l).length,n≤c,((ah l).drop (0+0)).take (n*65)=ah (ak (((ah l).drop (0+0)).take (n*65))),(ak (((ah l).drop (0+0)).take (n*65))).length=n,n<bK,0≤v,v<256,bg (ak (((ah l).drop (0+0)).take (n*65))),MonoB (ak (((ah l).drop (0+0)).take (n*65))) v.toNat (aR (ak (((ah l).drop (0+0)).take (n*65))) v.toNat),(aR (ak (((ah l).drop (0+0)).take (n*65))) v.toNat)<n,SV.t [.a (.sld 0 0 0 (aR (ak (((ah l).drop (0+0)).take (n*65))) v.toNat) c),.a (.sld 0 0 (0+(0+(aR (ak (((ah l).drop (0+0)).take (n*65))) v.toNat)*65)) (n-(aR (ak (((ah l).drop (0+0)).take (n*65))) v.toNat)) (c-(aR (ak (((ah l).drop (0+0)).take (n*65))) v.toNat)))]=SV.t [.a (.sld 0 0 0 k c),.a (.sld 0 0 o (n-k) (c-k))],BOk a,0≤v,v≤256,ay.enc (eT a v.toNat)=ay.enc f,0+0+k*65≤(ah l).length,k≤c,((ah l).drop (0+0)).take (k*65)=ah (ak (((ah l).drop (0+0)).take (k*65))),(ak (((ah l).drop (0+0)).take (k*65))).length=k,k<N,1≤k,bg (ak (((ah l).drop (0+0)).take (k*65))),bC (ak (((ah l).drop (0+0)).take (k*65)))=true,cNd.enc (bD H (ak (((ah l).drop (0+0)).take (k*65))))=cNd.enc x,0+o+(n-k)*65≤(ah l).length,(n-k)≤(c-k),((ah l).drop (0+o)).take ((n-k)*65)=ah (ak (((ah l).drop (0+o)).take ((n-k)*65))),(ak (((ah l).drop (0+o)).take ((n-k)*65))).length=(n-k),(n-k)<N,1≤(n-k),bg (ak (((ah l).drop (0+o)).take ((n-k)*65))),bC (ak (((ah l).drop (0+o)).take ((n-k)*65)))=true,cNd.enc (bD H (ak (((ah l).drop (0+o)).take ((n-k)*65))))=cNd.enc y,0+133≤133,133≤133,133≤140737488354000,∀z∈((innB x y).drop 0).take 133,S3.Byt z,ay.enc (S3.refB (((innB x y).drop 0).take 133))=ay.enc h]:=by delta oX;kernel_rfl
end
theorem zr (l:List Nd) (ty:TypeId) (z:Nd) (g:Nat→SV):eRes tys (fill g 0 M) (fun k=>(mem l ty z)[k]?) fn.results.toList=some [.g z.row]:=by kernel_rfl
end rov
theorem dtA (l:List Nd) (k:Nat):((ah l).drop (0+0)).take (k*65)=ah (l.take k):=by rw[Nat.add_zero,List.drop_zero,qI]
theorem dtB {l:List Nd} {n:Nat} (hn:l.length=n) (k:Nat):((ah l).drop (0+k*65)).take ((n-k)*65)=ah (l.drop k):=by
 rw[Nat.zero_add,qJ,List.take_of_length_le (by rw[bH,List.length_drop,hn];exact Nat.le_refl _)]
theorem ld_node {l:List Nd} {n:Nat} (hn:l.length=n) {i:Nat} (hi:i<n):0+aN 0 (i:Int) 65+65≤(ah l).length∧SV.o (.g (bn (ah l) (0+aN 0 (i:Int) 65) 65))=cNd.enc (l.getD i zn):=by
 have hl:(ah l).length=n*65:=by rw[←hn];exact bH l
 have hb:i*65+65≤n*65:=by have:=Nat.mul_le_mul_right 65 (show i+1≤n by omega);omega
 exact⟨by rw[offs,hl];omega,by rw[offs];exact ld_nd l (by omega)⟩
theorem allOk_take {l:List Nd} (h:bg l) (k:Nat):bg (l.take k):=fun x hx=>h x (List.mem_of_mem_take hx)
theorem allOk_drop {l:List Nd} (h:bg l) (k:Nat):bg (l.drop k):=fun x hx=>h x (List.mem_of_mem_drop hx)
theorem ug {l:List Nd} {n k:Nat} (hn:l.length=n) (hok:bg l) (hap:bC l=true) (hk:k≤n):
  (((ah l).drop (0+0)).take (k*65)=ah (ak (((ah l).drop (0+0)).take (k*65)))∧ak (((ah l).drop (0+0)).take (k*65))=l.take k∧(l.take k).length=k∧bg (l.take k)∧bC (l.take k)=true)∧
  (((ah l).drop (0+k*65)).take ((n-k)*65)=ah (ak (((ah l).drop (0+k*65)).take ((n-k)*65)))∧ak (((ah l).drop (0+k*65)).take ((n-k)*65))=l.drop k∧(l.drop k).length=n-k∧bg (l.drop k)∧bC (l.drop k)=true):=by
 have hA:=(gF hok).1 hap
 rw[dtA,dtB hn,bE,bE]
 exact⟨⟨rfl,rfl,by rw[List.length_take];omega,allOk_take hok k,(gF (allOk_take hok k)).2 (jh hA k)⟩,⟨rfl,rfl,by rw[List.length_drop,hn],allOk_drop hok k,(gF (allOk_drop hok k)).2 (ji hA k)⟩⟩
namespace tjn
theorem all (H:Nd→Nd→B32) (hH:H=hV):∀N,N≤bK→IH H N
 | 0,_=>fun l n c ty hn h=>absurd h (by omega)
 | N+1,hN=>by
  have ih:=all H hH N (by omega)
  intro l n c ty hn hlt h1 hc hok hap
  by_cases e1:n=1
  ·obtain⟨a1,a2⟩:=ld_node hn (show 0<n by omega)
   refine Runs.au aj mixed (one H N ih l n c ty _) ⟨by rw[beq_iff_eq];omega,by omega,by omega,a1,a2,trivial⟩ (ids _ _ _) rfl fun g=>aH.ret (zr _ _ _ g) ?_
   rw[join_one H (by omega)]
   rfl
  ·have hA:=(gF hok).1 hap
   have hs:=halves hA (by omega)
   have k0:=hs.k0
   have kl:=hs.kl
   have c256:=hs.c256
   have hY:=dtn hn
   have ok0:=hok.at (show 0<l.length by omega)
   have hl:(ah l).length=n*65:=by rw[←hn];exact bH l
   obtain⟨a1,a2⟩:=ql l hn (show 0<n by omega)
   obtain⟨⟨q1,q2,q3,q4,q5⟩,r1,r2,r3,r4,r5⟩:=ug hn hok hap (show aR l (aM l)≤n by omega)
   have hk1:aR l (aM l)*65≤n*65:=Nat.mul_le_mul_right _ (by omega)
   have hk2:(n-aR l (aM l))*65=n*65-aR l (aM l)*65:=Nat.sub_mul _ _ _
   refine Runs.au aj mixed (two H N ih l n c ty (aR l (aM l)) (aR l (aM l)*65) (aM l:Nat) (l.getD 0 zn).pre (eT (l.getD 0 zn).pre (aM l)) (H (bD H (l.take (aR l (aM l)))) (bD H (l.drop (aR l (aM l))))) (bD H (l.take (aR l (aM l)))) (bD H (l.drop (aR l (aM l)))))
    ⟨by rw[←Bool.not_eq_true,beq_iff_eq];omega,by omega,hc,by rw[hY,bE],by rw[hY,bE];exact hn,by omega,by omega,by rw[hY,bE];exact hok,by rw[hY,bE];exact hap,by rw[hY,bE,Nat.zero_add,Nat.zero_add],
     by omega,by omega,a1,a2,ok0.1,by omega,by omega,rfl,
     by omega,by omega,q1,by rw[q2];exact q3,by omega,by omega,by rw[q2];exact q4,by rw[q2];exact q5,by rw[q2],
     by omega,by omega,r1,by rw[r2];exact r3,by omega,by omega,by rw[r2];exact r4,by rw[r2];exact r5,by rw[r2],
     by omega,by omega,?_,trivial⟩ (ids _ _ _) rfl fun g=>aH.ret (zr _ _ _ g) ?_
   ·rw[dt (n:=133) rfl,sha_of (by show 133≤_;omega),hH]
    rfl
   ·rw[pU H hA (by omega)]
    rfl
end tjn
namespace rov
theorem all (H:Nd→Nd→B32) (hH:H=hV):∀N,N≤bK→IH H N
 | 0,_=>fun l n c ty hn h=>absurd h (by omega)
 | N+1,hN=>by
  have ih:=all H hH N (by omega)
  intro l n c ty hn hlt h1 hc hok hap
  by_cases e1:n=1
  ·obtain⟨a1,a2⟩:=ld_node hn (show 0<n by omega)
   refine Runs.au aj mixed (one H N ih l n c ty _) ⟨by rw[beq_iff_eq];omega,by omega,by omega,a1,a2,trivial⟩ (ids _ _ _) rfl fun g=>aH.ret (zr _ _ _ g) ?_
   rw[join_one H (by omega)]
   rfl
  ·have hA:=(gF hok).1 hap
   have hs:=halves hA (by omega)
   have k0:=hs.k0
   have kl:=hs.kl
   have c256:=hs.c256
   have hY:=dtn hn
   have ok0:=hok.at (show 0<l.length by omega)
   have ok1:=hok.at (show n-1<l.length by omega)
   have hl:(ah l).length=n*65:=by rw[←hn];exact bH l
   have hHk:∀a b,BOk (H a b):=fun a b=>by rw[hH];exact gW a b
   obtain⟨a1,a2⟩:=ql l hn (show 0<n by omega)
   obtain⟨b1,b2⟩:=ql l hn (show n-1<n by omega)
   have hw:IntKind.i64.wrap ((n:Int)-1)=((n-1:Nat):Int):=by unfold bK at hN;rw[IntKind.wrap_i64];omega
   obtain⟨⟨q1,q2,q3,q4,q5⟩,r1,r2,r3,r4,r5⟩:=ug hn hok hap (show aR l (aM l)≤n by omega)
   have hk1:aR l (aM l)*65≤n*65:=Nat.mul_le_mul_right _ (by omega)
   have hk2:(n-aR l (aM l))*65=n*65-aR l (aM l)*65:=Nat.sub_mul _ _ _
   have ht:((aM l:Nat):Int).toNat=aM l:=rfl
   have okx:=(gT H hHk (jh hA (aR l (aM l))) (by rw[←List.length_pos_iff,q3];omega)).2.1
   have oky:=(gT H hHk (ji hA (aR l (aM l))) (by rw[←List.length_pos_iff,r3];omega)).2.1
   refine Runs.au aj mixed (two H N ih l n c ty (aR l (aM l)) (aR l (aM l)*65) ((n-1:Nat):Int) (aM l:Nat) (l.getD 0 zn).pre (l.getD (n-1) zn).pre (eT (l.getD 0 zn).pre (aM l)) (H (bD H (l.take (aR l (aM l)))) (bD H (l.drop (aR l (aM l))))) (bD H (l.take (aR l (aM l)))) (bD H (l.drop (aR l (aM l)))))
    ⟨by rw[←Bool.not_eq_true,beq_iff_eq];omega,by omega,by omega,a1,a2,hw,by omega,by omega,b1,b2,ok0.1,ok1.1,by omega,by omega,?_,
     by omega,hc,by rw[hY,bE],by rw[hY,bE];exact hn,by omega,by omega,by omega,by rw[hY,bE];exact hok,by rw[hY,bE,ht];exact sG hs,by rw[hY,bE,ht];omega,by rw[hY,bE,ht,Nat.zero_add,Nat.zero_add],
     ok0.1,by omega,by omega,rfl,
     by omega,by omega,q1,by rw[q2];exact q3,by omega,by omega,by rw[q2];exact q4,by rw[q2];exact q5,by rw[q2],
     by omega,by omega,r1,by rw[r2];exact r3,by omega,by omega,by rw[r2];exact r4,by rw[r2];exact r5,by rw[r2],
     by omega,by omega,by omega,by rw[dt (n:=133) rfl];exact innB_byt okx oky,?_,trivial⟩ (ids _ _ _) rfl fun g=>aH.ret (zr _ _ _ g) ?_
   ·have:min (256:Int).toNat (bN (l.getD 0 zn).pre (l.getD (n-1) zn).pre)=aM l:=by
     have hc:=oQ (l.getD 0 zn).pre (l.getD (n-1) zn).pre
     have e:aM l=bN (l.getD 0 zn).pre (l.getD (n-1) zn).pre:=by unfold aM;rw[hn]
     rw[e]
     show min 256 _=_
     omega
    rw[this]
   ·rw[dt (n:=133) rfl,hH]
    rfl
   ·rw[pU H hA (by omega)]
    rfl
end rov
section
variable (H:Nd→Nd→B32)
theorem tjn.ih (hH:H=hV):tjn.IH H bK:=tjn.all H hH bK (Nat.le_refl _)
theorem rov.ih (hH:H=hV):rov.IH H bK:=rov.all H hH bK (Nat.le_refl _)
noncomputable def tjn.conF (hH:H=hV):Con Tryd.prog GT:=tjn.con H bK (tjn.ih H hH)
noncomputable def rov.conF (hH:H=hV):Con Tryd.prog GT:=rov.con H bK (rov.ih H hH)
def bO (e:B32) (S:Nd→B32) (l:List Nd):B32 × Int:=bif bC l then (bif Nat.beq l.length 0 then (e,0) else (S (bD H l),0)) else (zB,1)
end
def hsS (x:B32 × Int):SV:= .t [.g (ay.row x.1),.a (aG .i64 x.2)]
noncomputable def hE:B32:=shaV [0]
noncomputable def hS (n:Nd):B32:=shaV (rtB n)
theorem beq0_t {n:Nat} (h:n=0):Nat.beq n 0=true:=by subst h;rfl
theorem beq0_f {n:Nat} (h:n≠0):Nat.beq n 0=false:=by rw[←Bool.not_eq_true,Nat.beq_eq];exact h
theorem ow {l:List Nd} (n:Nat) (hn:l.length=n):((ah l).drop (0+0)).take (n*65)=ah (ak (((ah l).drop (0+0)).take (n*65)))∧ak (((ah l).drop (0+0)).take (n*65))=l:=by
 rw[dtn hn,bE];exact⟨rfl,rfl⟩
theorem byt0:∀z∈[(0:Int)],S3.Byt z:=fun z hz=>by
 obtain rfl:=List.mem_singleton.1 hz
 exact⟨by omega,by omega⟩
namespace trt
noncomputable abbrev fn:=Tryd.f25
noncomputable def body:Code:=d9 fn
noncomputable def Γ (H:Nd→Nd→B32) (hH:H=hV):Cons Tryd.prog GT:=[tap.con,tjn.conF H hH,ttop.con,S3.s256_con]
def M (e:Int):List (Option SV):=aD 19 0 [(2,.o (.a (.ptr 1 0))),(3,.o (.a (aG .i64 e)))]
def mem (l:List Nd) (ty:TypeId) (z:B32):List Blk:=[⟨false,ty,.prv (ah l)⟩,⟨true,24,.lit (ay.row z)⟩]
theorem ids (l:List Nd) (ty:TypeId) (z:B32) (e:Int):oI (M e) (mem l ty z):=by delta oI;kernel_rfl
theorem zr (l:List Nd) (ty:TypeId) (z:B32) (e:Int) (g:Nat→SV):eRes tys (fill g 0 (M e)) (fun k=>(mem l ty z)[k]?) fn.results.toList=some [.g (ay.row z),.a (aG .i64 e)]:=by kernel_rfl
section
variable (H:Nd→Nd→B32)
theorem nil (hH:H=hV) (a:Option Addr) (h:B32):gK (Γ H hH) tys fn 100 [.o (.a (.v (.slice a 0 0)))] [(14,[.s (ay.enc h)])]=some (hsS (h,0),[0+1≤1,1≤1,ay.enc (S3.finB (S3.dQ S3.S0 ((([(0:Int)]).drop 0).take 1)))=ay.enc h]):=by kernel_rfl
theorem bad (hH:H=hV) (l:List Nd) (n c:Nat) (ty:TypeId):oX (Γ H hH) 100 body (aK fn [.o (.a (.sld 0 0 0 n c))]) [⟨false,ty,.prv (ah l)⟩] [(6,[.s (aI.enc false)])] .ret (M 1) (mem l ty zB) [0+0+n*65≤(ah l).length,n≤c,((ah l).drop (0+0)).take (n*65)=ah (ak (((ah l).drop (0+0)).take (n*65))),(ak (((ah l).drop (0+0)).take (n*65))).length=n,n<bK,bg (ak (((ah l).drop (0+0)).take (n*65))),aI.enc (bC (ak (((ah l).drop (0+0)).take (n*65))))=aI.enc false]:=by delta oX;kernel_rfl
theorem zero (hH:H=hV) (l:List Nd) (n c:Nat) (ty:TypeId) (h:B32):oX (Γ H hH) 100 body (aK fn [.o (.a (.sld 0 0 0 n c))]) [⟨false,ty,.prv (ah l)⟩] [(6,[.s (aI.enc true)]),(12,[.b true]),(14,[.s (ay.enc h)])] .ret (M 0) (mem l ty h) [0+0+n*65≤(ah l).length,n≤c,((ah l).drop (0+0)).take (n*65)=ah (ak (((ah l).drop (0+0)).take (n*65))),(ak (((ah l).drop (0+0)).take (n*65))).length=n,n<bK,bg (ak (((ah l).drop (0+0)).take (n*65))),aI.enc (bC (ak (((ah l).drop (0+0)).take (n*65))))=aI.enc true,((n:Int)==0)=true,0+1≤1,1≤1,ay.enc (S3.finB (S3.dQ S3.S0 ((([(0:Int)]).drop 0).take 1)))=ay.enc h]:=by delta oX;kernel_rfl
theorem good (hH:H=hV) (l:List Nd) (n c:Nat) (ty:TypeId) (x:Nd) (h:B32):oX (Γ H hH) 100 body (aK fn [.o (.a (.sld 0 0 0 n c))]) [⟨false,ty,.prv (ah l)⟩] [(6,[.s (aI.enc true)]),(12,[.b false]),(16,[.s (cNd.enc x)]),(18,[.s (ay.enc h)])] .ret (M 0) (mem l ty h) [0+0+n*65≤(ah l).length,n≤c,((ah l).drop (0+0)).take (n*65)=ah (ak (((ah l).drop (0+0)).take (n*65))),(ak (((ah l).drop (0+0)).take (n*65))).length=n,n<bK,bg (ak (((ah l).drop (0+0)).take (n*65))),aI.enc (bC (ak (((ah l).drop (0+0)).take (n*65))))=aI.enc true,((n:Int)==0)=false,0+0+n*65≤(ah l).length,n≤c,((ah l).drop (0+0)).take (n*65)=ah (ak (((ah l).drop (0+0)).take (n*65))),(ak (((ah l).drop (0+0)).take (n*65))).length=n,n<bK,1≤n,bg (ak (((ah l).drop (0+0)).take (n*65))),bC (ak (((ah l).drop (0+0)).take (n*65)))=true,cNd.enc (bD H (ak (((ah l).drop (0+0)).take (n*65))))=cNd.enc x,0+67≤67,67≤67,ay.enc (S3.finB (S3.dQ S3.S0 (((rtB x).drop 0).take 67)))=ay.enc h]:=by delta oX;kernel_rfl
theorem run (hH:H=hV) (E:B32) (hE':E=hE) (S:Nd→B32) (hS':S=hS) (l:List Nd) (n c:Nat) (ty:TypeId) (hn:l.length=n) (hm:n<bK) (hc:n≤c) (hok:bg l):aF Tryd.prog GT 1 body (aK fn [.o (.a (.sld 0 0 0 n c))]) [⟨false,ty,.prv (ah l)⟩] (aH tys fn (bJ (hsS (bO H E S l)) .none)):=by
 obtain⟨y1,y2⟩:=ow n hn
 have hl:(ah l).length=n*65:=by rw[←hn];exact bH l
 unfold bO
 cases ha:bC l with
 | false=>
  rw[cond_false]
  exact Runs.au aj mixed (bad H hH l n c ty) ⟨by omega,hc,y1,by rw[y2];exact hn,hm,by rw[y2];exact hok,by rw[y2,ha],trivial⟩ (ids _ _ _ _) rfl fun g=>aH.ret (zr _ _ _ _ g) rfl
 | true=>
  rw[cond_true]
  rcases Nat.eq_zero_or_pos n with h0 | h0
  ·rw[beq0_t (by omega),cond_true]
   refine Runs.au aj mixed (zero H hH l n c ty E) ⟨by omega,hc,y1,by rw[y2];exact hn,hm,by rw[y2];exact hok,by rw[y2,ha],by rw[beq_iff_eq];omega,by omega,by omega,?_,trivial⟩ (ids _ _ _ _) rfl fun g=>aH.ret (zr _ _ _ _ g) rfl
   rw[dt (n:=1) rfl,sha_of (by show 1≤_;omega),hE']
   rfl
  ·have hz:((n:Int)==0)=false:=by rw[←Bool.not_eq_true,beq_iff_eq];omega
   rw[beq0_f (by omega),cond_false]
   have hA:=(gF hok).1 ha
   have okx:=(gT H (fun a b=>by rw[hH];exact gW a b) hA (by rw[←List.length_pos_iff];omega)).2.1
   refine Runs.au aj mixed (good H hH l n c ty (bD H l) (S (bD H l))) ⟨by omega,hc,y1,by rw[y2];exact hn,hm,by rw[y2];exact hok,by rw[y2,ha],hz,by omega,hc,y1,by rw[y2];exact hn,hm,h0,by rw[y2];exact hok,by rw[y2,ha],by rw[y2],by omega,by omega,?_,trivial⟩ (ids _ _ _ _) rfl fun g=>aH.ret (zr _ _ _ _ g) rfl
   rw[dt (n:=67) rfl,sha_of (by show 67≤_;omega),hS']
   rfl
theorem nil_ok (hH:H=hV) (E:B32) (hE':E=hE) (S:Nd→B32) (hS':S=hS):Holds [0+1≤1,1≤1,ay.enc (S3.finB (S3.dQ S3.S0 ((([(0:Int)]).drop 0).take 1)))=ay.enc E]:=⟨by omega,by omega,by rw[dt (n:=1) rfl,sha_of (by show 1≤_;omega),hE'];rfl,trivial⟩
end
def spec (H:Nd→Nd→B32) (E:B32) (S:Nd→B32):List aU→Option (SV × dH × Cst)
 | [.winv _ vs n ty]=>some (hsS (bO H E S (ak vs)),.none,[vs=ah (ak vs),(ak vs).length=n,n<bK,bg (ak vs)])
 | [.val (.o (.a (.v (.slice a 0 0))))]=>some (hsS (E,0),.none,[])
 | _=>none
noncomputable def con (H:Nd→Nd→B32) (hH:H=hV) (E:B32) (hE':E=hE) (S:Nd→B32) (hS':S=hS):Con Tryd.prog GT:=Con.parts aj 25 fn Tryd.func25 (by kernel_rfl) (c:=body) (by kernel_rfl) [.winv 65] (spec H E S)
 (fun ps r e p h hp=>by
  unfold spec at h
  split at h<;>cases h
  ·exact⟨rfl,fun b hb=>by simp only[bf,aU.blk,List.append_nil,List.nil_append,List.mem_singleton] at hb;rw[hb]⟩
  ·exact⟨rfl,fun b hb=>by simp[bf,aU.blk] at hb⟩)
 (fun ps r e p cap h hp hi=>by
  unfold spec at h
  split at h<;>cases h
  ·rename_i s vs n ty
   obtain⟨p1,p2,p3,p4,_⟩:=hp
   have q:=run H hH E hE' S hS' (ak vs) n (cap 0) ty p2 p3 hi.1.2 p4
   rw[←p1] at q
   exact q
  ·exact mq aj mixed (by kernel_rfl) (nil H hH _ E) (nil_ok H hH E hE' S hS'))
end trt
namespace rrt
noncomputable abbrev fn:=Tryd.f34
noncomputable def body:Code:=d9 fn
noncomputable def Γ (H:Nd→Nd→B32) (hH:H=hV):Cons Tryd.prog GT:=[rap.con,rov.conF H hH,rtop.con,S3.r256_con]
def M (e:Int):List (Option SV):=aD 17 0 [(2,.o (.a (.ptr 1 0))),(3,.o (.a (aG .i64 e)))]
def mem (l:List Nd) (ty:TypeId) (z:B32):List Blk:=[⟨false,ty,.prv (ah l)⟩,⟨true,24,.lit (ay.row z)⟩]
theorem ids (l:List Nd) (ty:TypeId) (z:B32) (e:Int):oI (M e) (mem l ty z):=by delta oI;kernel_rfl
theorem zr (l:List Nd) (ty:TypeId) (z:B32) (e:Int) (g:Nat→SV):eRes tys (fill g 0 (M e)) (fun k=>(mem l ty z)[k]?) fn.results.toList=some [.g (ay.row z),.a (aG .i64 e)]:=by kernel_rfl
section
variable (H:Nd→Nd→B32)
theorem nil (hH:H=hV) (a:Option Addr) (h:B32):gK (Γ H hH) tys fn 100 [.o (.a (.v (.slice a 0 0)))] [(12,[.s (ay.enc h)])]=some (hsS (h,0),[0+1≤1,1≤1,1≤140737488354000,∀z∈(([(0:Int)]).drop 0).take 1,S3.Byt z,ay.enc (S3.refB ((([(0:Int)]).drop 0).take 1))=ay.enc h]):=by kernel_rfl
theorem bad (hH:H=hV) (l:List Nd) (n c:Nat) (ty:TypeId):oX (Γ H hH) 100 body (aK fn [.o (.a (.sld 0 0 0 n c))]) [⟨false,ty,.prv (ah l)⟩] [(5,[.s (aI.enc false)])] .ret (M 1) (mem l ty zB) [0+0+n*65≤(ah l).length,n≤c,((ah l).drop (0+0)).take (n*65)=ah (ak (((ah l).drop (0+0)).take (n*65))),(ak (((ah l).drop (0+0)).take (n*65))).length=n,n<bK,bg (ak (((ah l).drop (0+0)).take (n*65))),aI.enc (bC (ak (((ah l).drop (0+0)).take (n*65))))=aI.enc false]:=by delta oX;kernel_rfl
theorem zero (hH:H=hV) (l:List Nd) (n c:Nat) (ty:TypeId) (h:B32):oX (Γ H hH) 100 body (aK fn [.o (.a (.sld 0 0 0 n c))]) [⟨false,ty,.prv (ah l)⟩] [(5,[.s (aI.enc true)]),(10,[.b true]),(12,[.s (ay.enc h)])] .ret (M 0) (mem l ty h) [0+0+n*65≤(ah l).length,n≤c,((ah l).drop (0+0)).take (n*65)=ah (ak (((ah l).drop (0+0)).take (n*65))),(ak (((ah l).drop (0+0)).take (n*65))).length=n,n<bK,bg (ak (((ah l).drop (0+0)).take (n*65))),aI.enc (bC (ak (((ah l).drop (0+0)).take (n*65))))=aI.enc true,((n:Int)==0)=true,0+1≤1,1≤1,1≤140737488354000,∀z∈(([(0:Int)]).drop 0).take 1,S3.Byt z,ay.enc (S3.refB ((([(0:Int)]).drop 0).take 1))=ay.enc h]:=by delta oX;kernel_rfl
theorem good (hH:H=hV) (l:List Nd) (n c:Nat) (ty:TypeId) (x:Nd) (h:B32):oX (Γ H hH) 100 body (aK fn [.o (.a (.sld 0 0 0 n c))]) [⟨false,ty,.prv (ah l)⟩] [(5,[.s (aI.enc true)]),(10,[.b false]),(14,[.s (cNd.enc x)]),(16,[.s (ay.enc h)])] .ret (M 0) (mem l ty h) [0+0+n*65≤(ah l).length,n≤c,((ah l).drop (0+0)).take (n*65)=ah (ak (((ah l).drop (0+0)).take (n*65))),(ak (((ah l).drop (0+0)).take (n*65))).length=n,n<bK,bg (ak (((ah l).drop (0+0)).take (n*65))),aI.enc (bC (ak (((ah l).drop (0+0)).take (n*65))))=aI.enc true,((n:Int)==0)=false,0+0+n*65≤(ah l).length,n≤c,((ah l).drop (0+0)).take (n*65)=ah (ak (((ah l).drop (0+0)).take (n*65))),(ak (((ah l).drop (0+0)).take (n*65))).length=n,n<bK,1≤n,bg (ak (((ah l).drop (0+0)).take (n*65))),bC (ak (((ah l).drop (0+0)).take (n*65)))=true,cNd.enc (bD H (ak (((ah l).drop (0+0)).take (n*65))))=cNd.enc x,0+67≤67,67≤67,67≤140737488354000,∀z∈((rtB x).drop 0).take 67,S3.Byt z,ay.enc (S3.refB (((rtB x).drop 0).take 67))=ay.enc h]:=by delta oX;kernel_rfl
theorem run (hH:H=hV) (E:B32) (hE':E=hE) (S:Nd→B32) (hS':S=hS) (l:List Nd) (n c:Nat) (ty:TypeId) (hn:l.length=n) (hm:n<bK) (hc:n≤c) (hok:bg l):aF Tryd.prog GT 1 body (aK fn [.o (.a (.sld 0 0 0 n c))]) [⟨false,ty,.prv (ah l)⟩] (aH tys fn (bJ (hsS (bO H E S l)) .none)):=by
 obtain⟨y1,y2⟩:=ow n hn
 have hl:(ah l).length=n*65:=by rw[←hn];exact bH l
 unfold bO
 cases ha:bC l with
 | false=>
  rw[cond_false]
  exact Runs.au aj mixed (bad H hH l n c ty) ⟨by omega,hc,y1,by rw[y2];exact hn,hm,by rw[y2];exact hok,by rw[y2,ha],trivial⟩ (ids _ _ _ _) rfl fun g=>aH.ret (zr _ _ _ _ g) rfl
 | true=>
  rw[cond_true]
  rcases Nat.eq_zero_or_pos n with h0 | h0
  ·rw[beq0_t (by omega),cond_true]
   refine Runs.au aj mixed (zero H hH l n c ty E) ⟨by omega,hc,y1,by rw[y2];exact hn,hm,by rw[y2];exact hok,by rw[y2,ha],by rw[beq_iff_eq];omega,by omega,by omega,by omega,?_,?_,trivial⟩ (ids _ _ _ _) rfl fun g=>aH.ret (zr _ _ _ _ g) rfl
   ·rw[dt (n:=1) rfl];exact byt0
   ·rw[dt (n:=1) rfl,hE']
    rfl
  ·have hz:((n:Int)==0)=false:=by rw[←Bool.not_eq_true,beq_iff_eq];omega
   rw[beq0_f (by omega),cond_false]
   have hA:=(gF hok).1 ha
   have okx:=(gT H (fun a b=>by rw[hH];exact gW a b) hA (by rw[←List.length_pos_iff];omega)).2.1
   refine Runs.au aj mixed (good H hH l n c ty (bD H l) (S (bD H l))) ⟨by omega,hc,y1,by rw[y2];exact hn,hm,by rw[y2];exact hok,by rw[y2,ha],hz,by omega,hc,y1,by rw[y2];exact hn,hm,h0,by rw[y2];exact hok,by rw[y2,ha],by rw[y2],by omega,by omega,by omega,?_,?_,trivial⟩ (ids _ _ _ _) rfl fun g=>aH.ret (zr _ _ _ _ g) rfl
   ·rw[dt (n:=67) rfl];exact rtB_byt okx
   ·rw[dt (n:=67) rfl,hS']
    rfl
theorem nil_ok (hH:H=hV) (E:B32) (hE':E=hE) (S:Nd→B32) (hS':S=hS):Holds [0+1≤1,1≤1,1≤140737488354000,∀z∈(([(0:Int)]).drop 0).take 1,S3.Byt z,ay.enc (S3.refB ((([(0:Int)]).drop 0).take 1))=ay.enc E]:=⟨by omega,by omega,by omega,by rw[dt (n:=1) rfl];exact byt0,by rw[dt (n:=1) rfl,hE'];rfl,trivial⟩
end
def spec (H:Nd→Nd→B32) (E:B32) (S:Nd→B32):List aU→Option (SV × dH × Cst)
 | [.winv _ vs n ty]=>some (hsS (bO H E S (ak vs)),.none,[vs=ah (ak vs),(ak vs).length=n,n<bK,bg (ak vs)])
 | [.val (.o (.a (.v (.slice a 0 0))))]=>some (hsS (E,0),.none,[])
 | _=>none
noncomputable def con (H:Nd→Nd→B32) (hH:H=hV) (E:B32) (hE':E=hE) (S:Nd→B32) (hS':S=hS):Con Tryd.prog GT:=Con.parts aj 34 fn Tryd.func34 (by kernel_rfl) (c:=body) (by kernel_rfl) [.winv 65] (spec H E S)
 (fun ps r e p h hp=>by
  unfold spec at h
  split at h<;>cases h
  ·exact⟨rfl,fun b hb=>by simp only[bf,aU.blk,List.append_nil,List.nil_append,List.mem_singleton] at hb;rw[hb]⟩
  ·exact⟨rfl,fun b hb=>by simp[bf,aU.blk] at hb⟩)
 (fun ps r e p cap h hp hi=>by
  unfold spec at h
  split at h<;>cases h
  ·rename_i s vs n ty
   obtain⟨p1,p2,p3,p4,_⟩:=hp
   have q:=run H hH E hE' S hS' (ak vs) n (cap 0) ty p2 p3 hi.1.2 p4
   rw[←p1] at q
   exact q
  ·exact mq aj mixed (by kernel_rfl) (nil H hH _ E) (nil_ok H hH E hE' S hS'))
end rrt
end Go.Proofs.YtdccehmekkcheaaDoor
