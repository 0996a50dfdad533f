/- Packages tree, beaconref11: halves of nodes: contracts. -/
import Derived.Test.YtdccehmekkcheaaDoorAFo
import Derived.Test.YtdccehmekkcheaaDoorAMTB
namespace Go.Proofs.YtdccehmekkcheaaDoor
open Go Go.Eng Go.RowKit
set_option linter.unusedVariables false
set_option linter.unusedSimpArgs false
set_option maxRecDepth 100000
theorem advS_eq {c k:Nat} (h:k<c):advS c k 0 65=k*65:=by
 unfold advS
 rw[if_neg (by omega),Nat.zero_add]
theorem mono_halves {l:List Nd} {c k:Nat} (h:Halves l c k):MonoB l c k:=⟨Nat.le_of_lt h.kl,h.left,h.right⟩
theorem ld_off (l:List Nd) {i n:Nat} (hn:l.length=n) (hi:i<n):0+(offI 0 (i:Int) 65+1)+32≤(ah l).length∧SV.o (.g (aK (ah l) (0+(offI 0 (i:Int) 65+1)) 32))=cB32.enc (l.getD i zn).pre:=by
 have hl:(ah l).length=n*65:=by rw[←hn];exact aS l
 have hb:i*65+65≤n*65:=by have:=Nat.mul_le_mul_right 65 (show i+1≤n by omega);omega
 have ho:0+(offI 0 (i:Int) 65+1)=i*65+1:=by rw[offI_eq];simp
 rw[ho]
 exact⟨by omega,ld_pre l (by omega)⟩
namespace spl
theorem run (l:List Nd) (n c:Nat) (ty:TypeId) (hn:l.length=n) (hm:n<aW) (h2:2≤n) (hc:n≤c) (hok:aN l) (hap:aO l=true):
  aB Tryd.prog GT 1 body (aG fn [.o (.a (.sld 0 0 0 n c))]) [⟨false,ty,.prv (ah l)⟩] (aD tys fn (aR (.t [.a (.sld 0 0 0 (splK l (topC l)) c),.a (.sld 0 0 (splK l (topC l)*65) (n-splK l (topC l)) (c-splK l (topC l))),.a (int1 .i64 (topC l:Nat))]) .none)):=by
 have hA:=(ap_iff hok).1 hap
 have hs:=halves hA (by omega)
 have k0:=hs.k0
 have kl:=hs.kl
 have c256:=hs.c256
 have hl:(ah l).length=n*65:=by rw[←hn];exact aS l
 have hY:=dtn hn
 obtain⟨a1,a2⟩:=ld_off l hn (show 0<n by omega)
 obtain⟨b1,b2⟩:=ld_off l hn (show n-1<n by omega)
 have hw:IntKind.i64.wrap ((n:Int)-1)=((n-1:Nat):Int):=by unfold aW at hm;rw[IntKind.wrap_i64];omega
 have ok0:=hok.at (show 0<l.length by omega)
 have ok1:=hok.at (show n-1<l.length by omega)
 refine Runs.au aj mixed (s l n c ty (splK l (topC l)) (splK l (topC l)*65) ((n-1:Nat):Int) (topC l:Nat) (l.getD 0 zn).pre (l.getD (n-1) zn).pre)
  ⟨by omega,by omega,a1,a2,hw,by omega,by omega,b1,b2,ok0.1,ok1.1,by rw[show n-1=l.length-1 by omega];rfl,by omega,by rw[hY,aP],by rw[hY,aP];exact hn,rfl,hm,by omega,by omega,
   by rw[hY,aP];exact hok,by rw[hY,aP];exact mono_halves hs,by rw[hY,aP];rfl,by omega,by omega,by omega,by omega,by omega,by omega,by rw[advS_eq (by omega)],trivial⟩ (ids _ _ _ _ _ _ _) rfl fun g=>aD.ret (zr _ _ _ _ _ _ _ g) rfl
def spec (ys:List Value) (n c:Nat):List SV→Option (SV × Cst)
 | []=>some (.t [.a (.sld 0 0 0 (splK (av ys) (topC (av ys))) c),.a (.sld 0 0 (splK (av ys) (topC (av ys))*65) (n-splK (av ys) (topC (av ys))) (c-splK (av ys) (topC (av ys)))),.a (int1 .i64 (topC (av ys):Nat))],[ys=ah (av ys),(av ys).length=n,n<aW,2≤n,aN (av ys),aO (av ys)=true])
 | _=>none
noncomputable def con:Con Tryd.prog GT:=Con.win aj 79 fn Tryd.func79 (by kernel_rfl) (c:=body) (by kernel_rfl) 65 spec
 (fun ys n cp rest r p h=>by
  unfold spec at h
  split at h<;>cases h
  rfl)
 (fun ys n cp ty rest r p h hp hl hc hr=>by
  unfold spec at h
  split at h<;>cases h
  obtain⟨p1,p2,p3,p4,p5,p6,_⟩:=hp
  have q:=run (av ys) n cp ty p2 p3 p4 hc p5 p6
  rw[←p1] at q
  exact q)
end spl
namespace hlv
theorem run (l:List Nd) (n c k:Nat) (v:Int) (ty:TypeId) (hn:l.length=n) (hm:n<aW) (hc:n≤c) (v0:0≤v) (v1:v<256) (hok:aN l) (hk:MonoB l v.toNat k) (hkn:k<n):
  aB Tryd.prog GT 1 body (aG fn [.o (.a (.sld 0 0 0 n c)),.o (.a (int1 .i64 v))]) [⟨false,ty,.prv (ah l)⟩] (aD tys fn (aR (.t [.a (.sld 0 0 0 k c),.a (.sld 0 0 (k*65) (n-k) (c-k))]) .none)):=by
 unfold aW at hm
 have done:∀g,aB Tryd.prog GT 1 D (fill g 0 (M l n c ty v (k:Int))) (mem l ty) (aD tys fn (aR (.t [.a (.sld 0 0 0 k c),.a (.sld 0 0 (k*65) (n-k) (c-k))]) .none)):=fun g=>
  Runs.au aj mixed (fin l n c ty v k (k*65) g) ⟨by omega,by omega,by omega,by omega,by omega,by omega,by rw[advS_eq (by omega)],trivial⟩ (idsZ _ _ _ _ _ _) rfl fun g=>aD.ret (zr _ _ _ _ _ _ g) rfl
 refine Runs.bH aj mixed 2 (s0 l n c ty v) trivial (ids _ _ _ _ _ _) rfl fun g=> ?_
 rw[bP]
 refine Runs.seq (Runs.block ?_)
 refine Runs.bI (fun(i:Nat)=>M l n c ty v (i:Int)) (fun _=>mem l ty) (fun i=>i≤k) (fun i=>k-i) ?_ 0 (Nat.zero_le _) g
 rintro i g hi
 obtain⟨a1,a2⟩:=ld_off l hn (show i<n by omega)
 have oki:=hok.at (show i<l.length by omega)
 rcases Nat.lt_or_ge i k with h | h
 ·have hb:=hk.no i h
  refine Runs.au aj mixed (stp l n c ty v _ ((i+1:Nat):Int) _ _ g) ⟨decide_eq_true (by omega),by omega,by omega,a1,a2,v0,v1,oki.1,rfl,by unfold bitI;rw[hb];rfl,by rw[IntKind.wrap_i64];omega,trivial⟩ (ids _ _ _ _ _ _) rfl fun g=> ?_
  exact⟨i+1,g,rfl,rfl,by omega,by omega⟩
 ·obtain rfl:i=k:=by omega
  have hb:=hk.yes i (Nat.le_refl _) (by omega)
  refine Runs.au aj mixed (hit l n c ty v _ _ _ g) ⟨decide_eq_true (by omega),by omega,by omega,a1,a2,v0,v1,oki.1,rfl,by unfold bitI;rw[hb];rfl,trivial⟩ (ids _ _ _ _ _ _) rfl fun g=> ?_
  show aB _ _ _ _ _ _ _
  exact done g
def spec (ys:List Value) (n c:Nat):List SV→Option (SV × Cst)
 | [.o (.a (.v (.int .i64 v)))]=>some (.t [.a (.sld 0 0 0 (splK (av ys) v.toNat) c),.a (.sld 0 0 (splK (av ys) v.toNat*65) (n-splK (av ys) v.toNat) (c-splK (av ys) v.toNat))],[ys=ah (av ys),(av ys).length=n,n<aW,0≤v,v<256,aN (av ys),MonoB (av ys) v.toNat (splK (av ys) v.toNat),splK (av ys) v.toNat<n])
 | _=>none
noncomputable def con:Con Tryd.prog GT:=Con.win aj 82 fn Tryd.func82 (by kernel_rfl) (c:=body) (by kernel_rfl) 65 spec
 (fun ys n cp rest r p h=>by
  unfold spec at h
  split at h<;>cases h
  rfl)
 (fun ys n cp ty rest r p h hp hl hc hr=>by
  unfold spec at h
  split at h<;>cases h
  obtain⟨p1,p2,p3,p4,p5,p6,p7,p8,_⟩:=hp
  have q:=run (av ys) n cp _ _ ty p2 p3 hc p4 p5 p6 p7 p8
  rw[←p1] at q
  exact q)
end hlv
end Go.Proofs.YtdccehmekkcheaaDoor
namespace Go.Proofs.YtdccehmekkcheaaDoor
open Go Go.Eng Go.RowKit
set_option linter.unusedVariables false
set_option linter.unusedSimpArgs false
set_option maxRecDepth 100000
noncomputable def hV (a b:Nd):B32:=shaV (innB a b)
theorem hV_ok (a b:Nd):BOk (hV a b):=sha_ok _
namespace tjn
noncomputable abbrev fn:=Tryd.f60
noncomputable def body:Code:=bF fn
def IH (H:Nd→Nd→B32) (N:Nat):Prop:=∀(l:List Nd) (n c:Nat) (ty:TypeId),l.length=n→n<N→1≤n→n≤c→aN l→aO l=true→
 aB Tryd.prog GT 1 body (aG fn [.o (.a (.sld 0 0 0 n c))]) [⟨false,ty,.prv (ah l)⟩] (aD tys fn (aR (cNd.enc (aQ H l)) .none))
def spec (H:Nd→Nd→B32) (N:Nat):List PArg→Option (SV × LEff × Cst)
 | [.winv _ vs n ty]=>some (cNd.enc (aQ H (av vs)),.none,[vs=ah (av vs),(av vs).length=n,n<N,1≤n,aN (av vs),aO (av vs)=true])
 | _=>none
noncomputable def con (H:Nd→Nd→B32) (N:Nat) (ih:IH H N):Con Tryd.prog GT:=Con.parts aj 60 fn Tryd.func60 (by kernel_rfl) (c:=body) (by kernel_rfl) [.winv 65] (spec H N)
 (fun ps r e p h hp=>by
  unfold spec at h
  split at h<;>cases h
  exact⟨rfl,fun b hb=>by simp only[aJ,PArg.blk,List.append_nil,List.nil_append,List.mem_singleton] at hb;rw[hb]⟩)
 (fun ps r e p cap h hp hi=>by
  unfold spec at h
  split at h<;>cases h
  rename_i s vs n ty
  obtain⟨p1,p2,p3,p4,p5,p6,_⟩:=hp
  obtain⟨⟨_,hcap⟩,_⟩:=hi
  have q:=ih (av vs) n (cap 0) ty p2 p3 p4 hcap p5 p6
  rw[←p1] at q
  exact q)
noncomputable def Γ (H:Nd→Nd→B32) (N:Nat) (ih:IH H N):Cons Tryd.prog GT:=[con H N ih,spl.con,tfst.con,tinn.con,S3.s256_con]
def M:List (Option SV):=ay 32 0 [(2,.o (.a (.ptr 1 0)))]
def mem (l:List Nd) (ty:TypeId) (z:Nd):List Blk:=[⟨false,ty,.prv (ah l)⟩,⟨true,33,.lit z.row⟩]
theorem ids (l:List Nd) (ty:TypeId) (z:Nd):oI M (mem l ty z):=by delta oI;kernel_rfl
section
variable (H:Nd→Nd→B32) (N:Nat) (ih:IH H N) (l:List Nd) (n c:Nat) (ty:TypeId)
theorem one (x:Nd):oX (Γ H N ih) 100 body (aG fn [.o (.a (.sld 0 0 0 n c))]) [⟨false,ty,.prv (ah l)⟩] [(8,[.b true]),(11,[.ds (cNd.enc x)])] .ret M (mem l ty x) [((n:Int)==1)=true,0≤(0:Int),(0:Int)<n,0+offI 0 (0:Int) 65+65≤(ah l).length,SV.o (.g (aK (ah l) (0+offI 0 (0:Int) 65) 65))=cNd.enc x]:=by delta oX;kernel_rfl
theorem two (k o:Nat) (v:Int) (a f h:B32) (x y:Nd):oX (Γ H N ih) 100 body (aG fn [.o (.a (.sld 0 0 0 n c))]) [⟨false,ty,.prv (ah l)⟩] [(8,[.b false]),(14,[.s (.t [.a (.sld 0 0 0 k c),.a (.sld 0 0 o (n-k) (c-k)),.a (int1 .i64 v)])]),(22,[.ds (cB32.enc a)]),(24,[.s (cB32.enc f)]),(26,[.s (cNd.enc x)]),(28,[.s (cNd.enc y)]),(30,[.s (cB32.enc h)])] .ret M (mem l ty ⟨v,f,h⟩) [((n:Int)==1)=false,0+0+n*65≤(ah l).length,n≤c,((ah l).drop (0+0)).take (n*65)=ah (av (((ah l).drop (0+0)).take (n*65))),(av (((ah l).drop (0+0)).take (n*65))).length=n,n<aW,2≤n,aN (av (((ah l).drop (0+0)).take (n*65))),aO (av (((ah l).drop (0+0)).take (n*65)))=true,SV.t [.a (.sld 0 0 0 (splK (av (((ah l).drop (0+0)).take (n*65))) (topC (av (((ah l).drop (0+0)).take (n*65))))) c),.a (.sld 0 0 (0+(0+(splK (av (((ah l).drop (0+0)).take (n*65))) (topC (av (((ah l).drop (0+0)).take (n*65)))))*65)) (n-(splK (av (((ah l).drop (0+0)).take (n*65))) (topC (av (((ah l).drop (0+0)).take (n*65)))))) (c-(splK (av (((ah l).drop (0+0)).take (n*65))) (topC (av (((ah l).drop (0+0)).take (n*65))))))),.a (int1 .i64 (topC (av (((ah l).drop (0+0)).take (n*65))):Nat))]=SV.t [.a (.sld 0 0 0 k c),.a (.sld 0 0 o (n-k) (c-k)),.a (int1 .i64 v)],0≤(0:Int),(0:Int)<n,0+(offI 0 (0:Int) 65+1)+32≤(ah l).length,SV.o (.g (aK (ah l) (0+(offI 0 (0:Int) 65+1)) 32))=cB32.enc a,BOk a,0≤v,v≤256,cB32.enc (fstV a v.toNat)=cB32.enc f,0+0+k*65≤(ah l).length,k≤c,((ah l).drop (0+0)).take (k*65)=ah (av (((ah l).drop (0+0)).take (k*65))),(av (((ah l).drop (0+0)).take (k*65))).length=k,k<N,1≤k,aN (av (((ah l).drop (0+0)).take (k*65))),aO (av (((ah l).drop (0+0)).take (k*65)))=true,cNd.enc (aQ H (av (((ah l).drop (0+0)).take (k*65))))=cNd.enc x,0+o+(n-k)*65≤(ah l).length,(n-k)≤(c-k),((ah l).drop (0+o)).take ((n-k)*65)=ah (av (((ah l).drop (0+o)).take ((n-k)*65))),(av (((ah l).drop (0+o)).take ((n-k)*65))).length=(n-k),(n-k)<N,1≤(n-k),aN (av (((ah l).drop (0+o)).take ((n-k)*65))),aO (av (((ah l).drop (0+o)).take ((n-k)*65)))=true,cNd.enc (aQ H (av (((ah l).drop (0+o)).take ((n-k)*65))))=cNd.enc y,0+133≤133,133≤133,cB32.enc (S3.finB (S3.bL S3.S0 (((innB x y).drop 0).take 133)))=cB32.enc h]:=by delta oX;kernel_rfl
end
theorem zr (l:List Nd) (ty:TypeId) (z:Nd) (g:Nat→SV):eRes tys (fill g 0 M) (fun k=>(mem l ty z)[k]?) fn.results.toList=some [.g z.row]:=by kernel_rfl
end tjn
namespace rov
noncomputable abbrev fn:=Tryd.f65
noncomputable def body:Code:=bF fn
def IH (H:Nd→Nd→B32) (N:Nat):Prop:=∀(l:List Nd) (n c:Nat) (ty:TypeId),l.length=n→n<N→1≤n→n≤c→aN l→aO l=true→
 aB Tryd.prog GT 1 body (aG fn [.o (.a (.sld 0 0 0 n c))]) [⟨false,ty,.prv (ah l)⟩] (aD tys fn (aR (cNd.enc (aQ H l)) .none))
def spec (H:Nd→Nd→B32) (N:Nat):List PArg→Option (SV × LEff × Cst)
 | [.winv _ vs n ty]=>some (cNd.enc (aQ H (av vs)),.none,[vs=ah (av vs),(av vs).length=n,n<N,1≤n,aN (av vs),aO (av vs)=true])
 | _=>none
noncomputable def con (H:Nd→Nd→B32) (N:Nat) (ih:IH H N):Con Tryd.prog GT:=Con.parts aj 65 fn Tryd.func65 (by kernel_rfl) (c:=body) (by kernel_rfl) [.winv 65] (spec H N)
 (fun ps r e p h hp=>by
  unfold spec at h
  split at h<;>cases h
  exact⟨rfl,fun b hb=>by simp only[aJ,PArg.blk,List.append_nil,List.nil_append,List.mem_singleton] at hb;rw[hb]⟩)
 (fun ps r e p cap h hp hi=>by
  unfold spec at h
  split at h<;>cases h
  rename_i s vs n ty
  obtain⟨p1,p2,p3,p4,p5,p6,_⟩:=hp
  obtain⟨⟨_,hcap⟩,_⟩:=hi
  have q:=ih (av vs) n (cap 0) ty p2 p3 p4 hcap p5 p6
  rw[←p1] at q
  exact q)
noncomputable def Γ (H:Nd→Nd→B32) (N:Nat) (ih:IH H N):Cons Tryd.prog GT:=[con H N ih,rcom.con,hlv.con,rfst.con,rinn.con,S3.r256_con]
def M:List (Option SV):=ay 45 0 [(2,.o (.a (.ptr 1 0)))]
def mem (l:List Nd) (ty:TypeId) (z:Nd):List Blk:=[⟨false,ty,.prv (ah l)⟩,⟨true,33,.lit z.row⟩]
theorem ids (l:List Nd) (ty:TypeId) (z:Nd):oI M (mem l ty z):=by delta oI;kernel_rfl
section
variable (H:Nd→Nd→B32) (N:Nat) (ih:IH H N) (l:List Nd) (n c:Nat) (ty:TypeId)
theorem one (x:Nd):oX (Γ H N ih) 100 body (aG fn [.o (.a (.sld 0 0 0 n c))]) [⟨false,ty,.prv (ah l)⟩] [(10,[.b true]),(13,[.ds (cNd.enc x)])] .ret M (mem l ty x) [((n:Int)==1)=true,0≤(0:Int),(0:Int)<n,0+offI 0 (0:Int) 65+65≤(ah l).length,SV.o (.g (aK (ah l) (0+offI 0 (0:Int) 65) 65))=cNd.enc x]:=by delta oX;kernel_rfl
theorem two (k o:Nat) (m v:Int) (a b f h:B32) (x y:Nd):oX (Γ H N ih) 100 body (aG fn [.o (.a (.sld 0 0 0 n c))]) [⟨false,ty,.prv (ah l)⟩] [(10,[.b false]),(17,[.ds (cB32.enc a)]),(21,[.n m]),(24,[.ds (cB32.enc b)]),(27,[.s (.o (.a (int1 .i64 v)))]),(31,[.s (.t [.a (.sld 0 0 0 k c),.a (.sld 0 0 o (n-k) (c-k))])]),(37,[.s (cB32.enc f)]),(39,[.s (cNd.enc x)]),(41,[.s (cNd.enc y)]),(43,[.s (cB32.enc h)])] .ret M (mem l ty ⟨v,f,h⟩) [((n:Int)==1)=false,0≤(0:Int),(0:Int)<n,0+(offI 0 (0:Int) 65+1)+32≤(ah l).length,SV.o (.g (aK (ah l) (0+(offI 0 (0:Int) 65+1)) 32))=cB32.enc a,IntKind.i64.wrap ((n:Int)-1)=m,0≤m,m<n,0+(offI 0 m 65+1)+32≤(ah l).length,SV.o (.g (aK (ah l) (0+(offI 0 m 65+1)) 32))=cB32.enc b,BOk a,BOk b,0≤(256:Int),(256:Int)≤256,(cInt .i64).enc ((min (256:Int).toNat (comV a b):Nat):Int)=(cInt .i64).enc v,0+0+n*65≤(ah l).length,n≤c,((ah l).drop (0+0)).take (n*65)=ah (av (((ah l).drop (0+0)).take (n*65))),(av (((ah l).drop (0+0)).take (n*65))).length=n,n<aW,0≤v,v<256,aN (av (((ah l).drop (0+0)).take (n*65))),MonoB (av (((ah l).drop (0+0)).take (n*65))) v.toNat (splK (av (((ah l).drop (0+0)).take (n*65))) v.toNat),(splK (av (((ah l).drop (0+0)).take (n*65))) v.toNat)<n,SV.t [.a (.sld 0 0 0 (splK (av (((ah l).drop (0+0)).take (n*65))) v.toNat) c),.a (.sld 0 0 (0+(0+(splK (av (((ah l).drop (0+0)).take (n*65))) v.toNat)*65)) (n-(splK (av (((ah l).drop (0+0)).take (n*65))) v.toNat)) (c-(splK (av (((ah l).drop (0+0)).take (n*65))) v.toNat)))]=SV.t [.a (.sld 0 0 0 k c),.a (.sld 0 0 o (n-k) (c-k))],BOk a,0≤v,v≤256,cB32.enc (fstV a v.toNat)=cB32.enc f,0+0+k*65≤(ah l).length,k≤c,((ah l).drop (0+0)).take (k*65)=ah (av (((ah l).drop (0+0)).take (k*65))),(av (((ah l).drop (0+0)).take (k*65))).length=k,k<N,1≤k,aN (av (((ah l).drop (0+0)).take (k*65))),aO (av (((ah l).drop (0+0)).take (k*65)))=true,cNd.enc (aQ H (av (((ah l).drop (0+0)).take (k*65))))=cNd.enc x,0+o+(n-k)*65≤(ah l).length,(n-k)≤(c-k),((ah l).drop (0+o)).take ((n-k)*65)=ah (av (((ah l).drop (0+o)).take ((n-k)*65))),(av (((ah l).drop (0+o)).take ((n-k)*65))).length=(n-k),(n-k)<N,1≤(n-k),aN (av (((ah l).drop (0+o)).take ((n-k)*65))),aO (av (((ah l).drop (0+o)).take ((n-k)*65)))=true,cNd.enc (aQ H (av (((ah l).drop (0+o)).take ((n-k)*65))))=cNd.enc y,0+133≤133,133≤133,133≤140737488354000,∀z∈((innB x y).drop 0).take 133,S3.Byt z,cB32.enc (S3.refB (((innB x y).drop 0).take 133))=cB32.enc h]:=by delta oX;kernel_rfl
end
theorem zr (l:List Nd) (ty:TypeId) (z:Nd) (g:Nat→SV):eRes tys (fill g 0 M) (fun k=>(mem l ty z)[k]?) fn.results.toList=some [.g z.row]:=by kernel_rfl
end rov
end Go.Proofs.YtdccehmekkcheaaDoor
namespace Go.Proofs.YtdccehmekkcheaaDoor
open Go Go.Eng Go.RowKit
set_option linter.unusedVariables false
set_option linter.unusedSimpArgs false
set_option maxRecDepth 100000
theorem dtA (l:List Nd) (k:Nat):((ah l).drop (0+0)).take (k*65)=ah (l.take k):=by rw[Nat.add_zero,List.drop_zero,nvals_take]
theorem dtB {l:List Nd} {n:Nat} (hn:l.length=n) (k:Nat):((ah l).drop (0+k*65)).take ((n-k)*65)=ah (l.drop k):=by
 rw[Nat.zero_add,nvals_drop,List.take_of_length_le (by rw[aS,List.length_drop,hn];exact Nat.le_refl _)]
theorem ld_node {l:List Nd} {n:Nat} (hn:l.length=n) {i:Nat} (hi:i<n):0+offI 0 (i:Int) 65+65≤(ah l).length∧SV.o (.g (aK (ah l) (0+offI 0 (i:Int) 65) 65))=cNd.enc (l.getD i zn):=by
 have hl:(ah l).length=n*65:=by rw[←hn];exact aS l
 have hb:i*65+65≤n*65:=by have:=Nat.mul_le_mul_right 65 (show i+1≤n by omega);omega
 exact⟨by rw[offs,hl];omega,by rw[offs];exact ld_nd l (by omega)⟩
theorem allOk_take {l:List Nd} (h:aN l) (k:Nat):aN (l.take k):=fun x hx=>h x (List.mem_of_mem_take hx)
theorem allOk_drop {l:List Nd} (h:aN l) (k:Nat):aN (l.drop k):=fun x hx=>h x (List.mem_of_mem_drop hx)
theorem parts_ok {l:List Nd} {n k:Nat} (hn:l.length=n) (hok:aN l) (hap:aO l=true) (hk:k≤n):
  (((ah l).drop (0+0)).take (k*65)=ah (av (((ah l).drop (0+0)).take (k*65)))∧av (((ah l).drop (0+0)).take (k*65))=l.take k∧(l.take k).length=k∧aN (l.take k)∧aO (l.take k)=true)∧
  (((ah l).drop (0+k*65)).take ((n-k)*65)=ah (av (((ah l).drop (0+k*65)).take ((n-k)*65)))∧av (((ah l).drop (0+k*65)).take ((n-k)*65))=l.drop k∧(l.drop k).length=n-k∧aN (l.drop k)∧aO (l.drop k)=true):=by
 have hA:=(ap_iff hok).1 hap
 rw[dtA,dtB hn,aP,aP]
 exact⟨⟨rfl,rfl,by rw[List.length_take];omega,allOk_take hok k,(ap_iff (allOk_take hok k)).2 (ap_take hA k)⟩,⟨rfl,rfl,by rw[List.length_drop,hn],allOk_drop hok k,(ap_iff (allOk_drop hok k)).2 (ap_drop hA k)⟩⟩
namespace tjn
theorem all (H:Nd→Nd→B32) (hH:H=hV):∀N,N≤aW→IH H N
 | 0,_=>fun l n c ty hn h=>absurd h (by omega)
 | N+1,hN=>by
  have ih:=all H hH N (by omega)
  intro l n c ty hn hlt h1 hc hok hap
  by_cases e1:n=1
  ·obtain⟨a1,a2⟩:=ld_node hn (show 0<n by omega)
   refine Runs.au aj mixed (one H N ih l n c ty _) ⟨by rw[beq_iff_eq];omega,by omega,by omega,a1,a2,trivial⟩ (ids _ _ _) rfl fun g=>aD.ret (zr _ _ _ g) ?_
   rw[join_one H (by omega)]
   rfl
  ·have hA:=(ap_iff hok).1 hap
   have hs:=halves hA (by omega)
   have k0:=hs.k0
   have kl:=hs.kl
   have c256:=hs.c256
   have hY:=dtn hn
   have ok0:=hok.at (show 0<l.length by omega)
   have hl:(ah l).length=n*65:=by rw[←hn];exact aS l
   obtain⟨a1,a2⟩:=ld_off l hn (show 0<n by omega)
   obtain⟨⟨q1,q2,q3,q4,q5⟩,r1,r2,r3,r4,r5⟩:=parts_ok hn hok hap (show splK l (topC l)≤n by omega)
   have hk1:splK l (topC l)*65≤n*65:=Nat.mul_le_mul_right _ (by omega)
   have hk2:(n-splK l (topC l))*65=n*65-splK l (topC l)*65:=Nat.sub_mul _ _ _
   refine Runs.au aj mixed (two H N ih l n c ty (splK l (topC l)) (splK l (topC l)*65) (topC l:Nat) (l.getD 0 zn).pre (fstV (l.getD 0 zn).pre (topC l)) (H (aQ H (l.take (splK l (topC l)))) (aQ H (l.drop (splK l (topC l))))) (aQ H (l.take (splK l (topC l)))) (aQ H (l.drop (splK l (topC l)))))
    ⟨by rw[←Bool.not_eq_true,beq_iff_eq];omega,by omega,hc,by rw[hY,aP],by rw[hY,aP];exact hn,by omega,by omega,by rw[hY,aP];exact hok,by rw[hY,aP];exact hap,by rw[hY,aP,Nat.zero_add,Nat.zero_add],
     by omega,by omega,a1,a2,ok0.1,by omega,by omega,rfl,
     by omega,by omega,q1,by rw[q2];exact q3,by omega,by omega,by rw[q2];exact q4,by rw[q2];exact q5,by rw[q2],
     by omega,by omega,r1,by rw[r2];exact r3,by omega,by omega,by rw[r2];exact r4,by rw[r2];exact r5,by rw[r2],
     by omega,by omega,?_,trivial⟩ (ids _ _ _) rfl fun g=>aD.ret (zr _ _ _ g) ?_
   ·rw[dt (n:=133) rfl,sha_of (by show 133≤_;omega),hH]
    rfl
   ·rw[join_two H hA (by omega)]
    rfl
end tjn
namespace rov
theorem all (H:Nd→Nd→B32) (hH:H=hV):∀N,N≤aW→IH H N
 | 0,_=>fun l n c ty hn h=>absurd h (by omega)
 | N+1,hN=>by
  have ih:=all H hH N (by omega)
  intro l n c ty hn hlt h1 hc hok hap
  by_cases e1:n=1
  ·obtain⟨a1,a2⟩:=ld_node hn (show 0<n by omega)
   refine Runs.au aj mixed (one H N ih l n c ty _) ⟨by rw[beq_iff_eq];omega,by omega,by omega,a1,a2,trivial⟩ (ids _ _ _) rfl fun g=>aD.ret (zr _ _ _ g) ?_
   rw[join_one H (by omega)]
   rfl
  ·have hA:=(ap_iff hok).1 hap
   have hs:=halves hA (by omega)
   have k0:=hs.k0
   have kl:=hs.kl
   have c256:=hs.c256
   have hY:=dtn hn
   have ok0:=hok.at (show 0<l.length by omega)
   have ok1:=hok.at (show n-1<l.length by omega)
   have hl:(ah l).length=n*65:=by rw[←hn];exact aS l
   have hHk:∀a b,BOk (H a b):=fun a b=>by rw[hH];exact hV_ok a b
   obtain⟨a1,a2⟩:=ld_off l hn (show 0<n by omega)
   obtain⟨b1,b2⟩:=ld_off l hn (show n-1<n by omega)
   have hw:IntKind.i64.wrap ((n:Int)-1)=((n-1:Nat):Int):=by unfold aW at hN;rw[IntKind.wrap_i64];omega
   obtain⟨⟨q1,q2,q3,q4,q5⟩,r1,r2,r3,r4,r5⟩:=parts_ok hn hok hap (show splK l (topC l)≤n by omega)
   have hk1:splK l (topC l)*65≤n*65:=Nat.mul_le_mul_right _ (by omega)
   have hk2:(n-splK l (topC l))*65=n*65-splK l (topC l)*65:=Nat.sub_mul _ _ _
   have ht:((topC l:Nat):Int).toNat=topC l:=rfl
   have okx:=(join_good H hHk (ap_take hA (splK l (topC l))) (by rw[←List.length_pos_iff,q3];omega)).2.1
   have oky:=(join_good H hHk (ap_drop hA (splK l (topC l))) (by rw[←List.length_pos_iff,r3];omega)).2.1
   refine Runs.au aj mixed (two H N ih l n c ty (splK l (topC l)) (splK l (topC l)*65) ((n-1:Nat):Int) (topC l:Nat) (l.getD 0 zn).pre (l.getD (n-1) zn).pre (fstV (l.getD 0 zn).pre (topC l)) (H (aQ H (l.take (splK l (topC l)))) (aQ H (l.drop (splK l (topC l))))) (aQ H (l.take (splK l (topC l)))) (aQ H (l.drop (splK l (topC l)))))
    ⟨by rw[←Bool.not_eq_true,beq_iff_eq];omega,by omega,by omega,a1,a2,hw,by omega,by omega,b1,b2,ok0.1,ok1.1,by omega,by omega,?_,
     by omega,hc,by rw[hY,aP],by rw[hY,aP];exact hn,by omega,by omega,by omega,by rw[hY,aP];exact hok,by rw[hY,aP,ht];exact mono_halves hs,by rw[hY,aP,ht];omega,by rw[hY,aP,ht,Nat.zero_add,Nat.zero_add],
     ok0.1,by omega,by omega,rfl,
     by omega,by omega,q1,by rw[q2];exact q3,by omega,by omega,by rw[q2];exact q4,by rw[q2];exact q5,by rw[q2],
     by omega,by omega,r1,by rw[r2];exact r3,by omega,by omega,by rw[r2];exact r4,by rw[r2];exact r5,by rw[r2],
     by omega,by omega,by omega,by rw[dt (n:=133) rfl];exact innB_byt okx oky,?_,trivial⟩ (ids _ _ _) rfl fun g=>aD.ret (zr _ _ _ g) ?_
   ·have:min (256:Int).toNat (comV (l.getD 0 zn).pre (l.getD (n-1) zn).pre)=topC l:=by
     have hc:=com_le (l.getD 0 zn).pre (l.getD (n-1) zn).pre
     have e:topC l=comV (l.getD 0 zn).pre (l.getD (n-1) zn).pre:=by unfold topC;rw[hn]
     rw[e]
     show min 256 _=_
     omega
    rw[this]
   ·rw[dt (n:=133) rfl,hH]
    rfl
   ·rw[join_two H hA (by omega)]
    rfl
end rov
end Go.Proofs.YtdccehmekkcheaaDoor
namespace Go.Proofs.YtdccehmekkcheaaDoor
open Go Go.Eng Go.RowKit
set_option linter.unusedVariables false
set_option linter.unusedSimpArgs false
set_option maxRecDepth 100000
section
variable (H:Nd→Nd→B32)
theorem tjn.ih (hH:H=hV):tjn.IH H aW:=tjn.all H hH aW (Nat.le_refl _)
theorem rov.ih (hH:H=hV):rov.IH H aW:=rov.all H hH aW (Nat.le_refl _)
noncomputable def tjn.conF (hH:H=hV):Con Tryd.prog GT:=tjn.con H aW (tjn.ih H hH)
noncomputable def rov.conF (hH:H=hV):Con Tryd.prog GT:=rov.con H aW (rov.ih H hH)
def bD (e:B32) (S:Nd→B32) (l:List Nd):B32 × Int:=bif aO l then (bif Nat.beq l.length 0 then (e,0) else (S (aQ H l),0)) else (zB,1)
end
def hsS (x:B32 × Int):SV:= .t [.g (cB32.row x.1),.a (int1 .i64 x.2)]
noncomputable def hE:B32:=shaV [0]
noncomputable def hS (n:Nd):B32:=shaV (rtB n)
theorem beq0_t {n:Nat} (h:n=0):Nat.beq n 0=true:=by subst h;rfl
theorem beq0_f {n:Nat} (h:n≠0):Nat.beq n 0=false:=by rw[←Bool.not_eq_true,Nat.beq_eq];exact h
theorem apN_two {l:List Nd} (n:Nat) (hn:l.length=n):((ah l).drop (0+0)).take (n*65)=ah (av (((ah l).drop (0+0)).take (n*65)))∧av (((ah l).drop (0+0)).take (n*65))=l:=by
 rw[dtn hn,aP];exact⟨rfl,rfl⟩
theorem byt0:∀z∈[(0:Int)],S3.Byt z:=fun z hz=>by
 obtain rfl:=List.mem_singleton.1 hz
 exact⟨by omega,by omega⟩
namespace trt
noncomputable abbrev fn:=Tryd.f25
noncomputable def body:Code:=bF fn
noncomputable def Γ (H:Nd→Nd→B32) (hH:H=hV):Cons Tryd.prog GT:=[tap.con,tjn.conF H hH,ttop.con,S3.s256_con]
def M (e:Int):List (Option SV):=ay 19 0 [(2,.o (.a (.ptr 1 0))),(3,.o (.a (int1 .i64 e)))]
def mem (l:List Nd) (ty:TypeId) (z:B32):List Blk:=[⟨false,ty,.prv (ah l)⟩,⟨true,24,.lit (cB32.row z)⟩]
theorem ids (l:List Nd) (ty:TypeId) (z:B32) (e:Int):oI (M e) (mem l ty z):=by delta oI;kernel_rfl
theorem zr (l:List Nd) (ty:TypeId) (z:B32) (e:Int) (g:Nat→SV):eRes tys (fill g 0 (M e)) (fun k=>(mem l ty z)[k]?) fn.results.toList=some [.g (cB32.row z),.a (int1 .i64 e)]:=by kernel_rfl
section
variable (H:Nd→Nd→B32)
theorem nil (hH:H=hV) (a:Option Addr) (h:B32):runOut (Γ H hH) tys fn 100 [.o (.a (.v (.slice a 0 0)))] [(14,[.s (cB32.enc h)])]=some (hsS (h,0),[0+1≤1,1≤1,cB32.enc (S3.finB (S3.bL S3.S0 ((([(0:Int)]).drop 0).take 1)))=cB32.enc h]):=by kernel_rfl
theorem bad (hH:H=hV) (l:List Nd) (n c:Nat) (ty:TypeId):oX (Γ H hH) 100 body (aG fn [.o (.a (.sld 0 0 0 n c))]) [⟨false,ty,.prv (ah l)⟩] [(6,[.s (aF.enc false)])] .ret (M 1) (mem l ty zB) [0+0+n*65≤(ah l).length,n≤c,((ah l).drop (0+0)).take (n*65)=ah (av (((ah l).drop (0+0)).take (n*65))),(av (((ah l).drop (0+0)).take (n*65))).length=n,n<aW,aN (av (((ah l).drop (0+0)).take (n*65))),aF.enc (aO (av (((ah l).drop (0+0)).take (n*65))))=aF.enc false]:=by delta oX;kernel_rfl
theorem zero (hH:H=hV) (l:List Nd) (n c:Nat) (ty:TypeId) (h:B32):oX (Γ H hH) 100 body (aG fn [.o (.a (.sld 0 0 0 n c))]) [⟨false,ty,.prv (ah l)⟩] [(6,[.s (aF.enc true)]),(12,[.b true]),(14,[.s (cB32.enc h)])] .ret (M 0) (mem l ty h) [0+0+n*65≤(ah l).length,n≤c,((ah l).drop (0+0)).take (n*65)=ah (av (((ah l).drop (0+0)).take (n*65))),(av (((ah l).drop (0+0)).take (n*65))).length=n,n<aW,aN (av (((ah l).drop (0+0)).take (n*65))),aF.enc (aO (av (((ah l).drop (0+0)).take (n*65))))=aF.enc true,((n:Int)==0)=true,0+1≤1,1≤1,cB32.enc (S3.finB (S3.bL S3.S0 ((([(0:Int)]).drop 0).take 1)))=cB32.enc h]:=by delta oX;kernel_rfl
theorem good (hH:H=hV) (l:List Nd) (n c:Nat) (ty:TypeId) (x:Nd) (h:B32):oX (Γ H hH) 100 body (aG fn [.o (.a (.sld 0 0 0 n c))]) [⟨false,ty,.prv (ah l)⟩] [(6,[.s (aF.enc true)]),(12,[.b false]),(16,[.s (cNd.enc x)]),(18,[.s (cB32.enc h)])] .ret (M 0) (mem l ty h) [0+0+n*65≤(ah l).length,n≤c,((ah l).drop (0+0)).take (n*65)=ah (av (((ah l).drop (0+0)).take (n*65))),(av (((ah l).drop (0+0)).take (n*65))).length=n,n<aW,aN (av (((ah l).drop (0+0)).take (n*65))),aF.enc (aO (av (((ah l).drop (0+0)).take (n*65))))=aF.enc true,((n:Int)==0)=false,0+0+n*65≤(ah l).length,n≤c,((ah l).drop (0+0)).take (n*65)=ah (av (((ah l).drop (0+0)).take (n*65))),(av (((ah l).drop (0+0)).take (n*65))).length=n,n<aW,1≤n,aN (av (((ah l).drop (0+0)).take (n*65))),aO (av (((ah l).drop (0+0)).take (n*65)))=true,cNd.enc (aQ H (av (((ah l).drop (0+0)).take (n*65))))=cNd.enc x,0+67≤67,67≤67,cB32.enc (S3.finB (S3.bL S3.S0 (((rtB x).drop 0).take 67)))=cB32.enc h]:=by delta oX;kernel_rfl
theorem run (hH:H=hV) (E:B32) (hE':E=hE) (S:Nd→B32) (hS':S=hS) (l:List Nd) (n c:Nat) (ty:TypeId) (hn:l.length=n) (hm:n<aW) (hc:n≤c) (hok:aN l):aB Tryd.prog GT 1 body (aG fn [.o (.a (.sld 0 0 0 n c))]) [⟨false,ty,.prv (ah l)⟩] (aD tys fn (aR (hsS (bD H E S l)) .none)):=by
 obtain⟨y1,y2⟩:=apN_two n hn
 have hl:(ah l).length=n*65:=by rw[←hn];exact aS l
 unfold bD
 cases ha:aO l with
 | false=>
  rw[cond_false]
  exact Runs.au aj mixed (bad H hH l n c ty) ⟨by omega,hc,y1,by rw[y2];exact hn,hm,by rw[y2];exact hok,by rw[y2,ha],trivial⟩ (ids _ _ _ _) rfl fun g=>aD.ret (zr _ _ _ _ g) rfl
 | true=>
  rw[cond_true]
  rcases Nat.eq_zero_or_pos n with h0 | h0
  ·rw[beq0_t (by omega),cond_true]
   refine Runs.au aj mixed (zero H hH l n c ty E) ⟨by omega,hc,y1,by rw[y2];exact hn,hm,by rw[y2];exact hok,by rw[y2,ha],by rw[beq_iff_eq];omega,by omega,by omega,?_,trivial⟩ (ids _ _ _ _) rfl fun g=>aD.ret (zr _ _ _ _ g) rfl
   rw[dt (n:=1) rfl,sha_of (by show 1≤_;omega),hE']
   rfl
  ·have hz:((n:Int)==0)=false:=by rw[←Bool.not_eq_true,beq_iff_eq];omega
   rw[beq0_f (by omega),cond_false]
   have hA:=(ap_iff hok).1 ha
   have okx:=(join_good H (fun a b=>by rw[hH];exact hV_ok a b) hA (by rw[←List.length_pos_iff];omega)).2.1
   refine Runs.au aj mixed (good H hH l n c ty (aQ H l) (S (aQ H l))) ⟨by omega,hc,y1,by rw[y2];exact hn,hm,by rw[y2];exact hok,by rw[y2,ha],hz,by omega,hc,y1,by rw[y2];exact hn,hm,h0,by rw[y2];exact hok,by rw[y2,ha],by rw[y2],by omega,by omega,?_,trivial⟩ (ids _ _ _ _) rfl fun g=>aD.ret (zr _ _ _ _ g) rfl
   rw[dt (n:=67) rfl,sha_of (by show 67≤_;omega),hS']
   rfl
theorem nil_ok (hH:H=hV) (E:B32) (hE':E=hE) (S:Nd→B32) (hS':S=hS):Holds [0+1≤1,1≤1,cB32.enc (S3.finB (S3.bL S3.S0 ((([(0:Int)]).drop 0).take 1)))=cB32.enc E]:=⟨by omega,by omega,by rw[dt (n:=1) rfl,sha_of (by show 1≤_;omega),hE'];rfl,trivial⟩
end
def spec (H:Nd→Nd→B32) (E:B32) (S:Nd→B32):List PArg→Option (SV × LEff × Cst)
 | [.winv _ vs n ty]=>some (hsS (bD H E S (av vs)),.none,[vs=ah (av vs),(av vs).length=n,n<aW,aN (av vs)])
 | [.val (.o (.a (.v (.slice a 0 0))))]=>some (hsS (E,0),.none,[])
 | _=>none
noncomputable def con (H:Nd→Nd→B32) (hH:H=hV) (E:B32) (hE':E=hE) (S:Nd→B32) (hS':S=hS):Con Tryd.prog GT:=Con.parts aj 25 fn Tryd.func25 (by kernel_rfl) (c:=body) (by kernel_rfl) [.winv 65] (spec H E S)
 (fun ps r e p h hp=>by
  unfold spec at h
  split at h<;>cases h
  ·exact⟨rfl,fun b hb=>by simp only[aJ,PArg.blk,List.append_nil,List.nil_append,List.mem_singleton] at hb;rw[hb]⟩
  ·exact⟨rfl,fun b hb=>by simp[aJ,PArg.blk] at hb⟩)
 (fun ps r e p cap h hp hi=>by
  unfold spec at h
  split at h<;>cases h
  ·rename_i s vs n ty
   obtain⟨p1,p2,p3,p4,_⟩:=hp
   have q:=run H hH E hE' S hS' (av vs) n (cap 0) ty p2 p3 hi.1.2 p4
   rw[←p1] at q
   exact q
  ·exact runs_of_out1 aj mixed (by kernel_rfl) (nil H hH _ E) (nil_ok H hH E hE' S hS'))
end trt
namespace rrt
noncomputable abbrev fn:=Tryd.f34
noncomputable def body:Code:=bF fn
noncomputable def Γ (H:Nd→Nd→B32) (hH:H=hV):Cons Tryd.prog GT:=[rap.con,rov.conF H hH,rtop.con,S3.r256_con]
def M (e:Int):List (Option SV):=ay 17 0 [(2,.o (.a (.ptr 1 0))),(3,.o (.a (int1 .i64 e)))]
def mem (l:List Nd) (ty:TypeId) (z:B32):List Blk:=[⟨false,ty,.prv (ah l)⟩,⟨true,24,.lit (cB32.row z)⟩]
theorem ids (l:List Nd) (ty:TypeId) (z:B32) (e:Int):oI (M e) (mem l ty z):=by delta oI;kernel_rfl
theorem zr (l:List Nd) (ty:TypeId) (z:B32) (e:Int) (g:Nat→SV):eRes tys (fill g 0 (M e)) (fun k=>(mem l ty z)[k]?) fn.results.toList=some [.g (cB32.row z),.a (int1 .i64 e)]:=by kernel_rfl
section
variable (H:Nd→Nd→B32)
theorem nil (hH:H=hV) (a:Option Addr) (h:B32):runOut (Γ H hH) tys fn 100 [.o (.a (.v (.slice a 0 0)))] [(12,[.s (cB32.enc h)])]=some (hsS (h,0),[0+1≤1,1≤1,1≤140737488354000,∀z∈(([(0:Int)]).drop 0).take 1,S3.Byt z,cB32.enc (S3.refB ((([(0:Int)]).drop 0).take 1))=cB32.enc h]):=by kernel_rfl
theorem bad (hH:H=hV) (l:List Nd) (n c:Nat) (ty:TypeId):oX (Γ H hH) 100 body (aG fn [.o (.a (.sld 0 0 0 n c))]) [⟨false,ty,.prv (ah l)⟩] [(5,[.s (aF.enc false)])] .ret (M 1) (mem l ty zB) [0+0+n*65≤(ah l).length,n≤c,((ah l).drop (0+0)).take (n*65)=ah (av (((ah l).drop (0+0)).take (n*65))),(av (((ah l).drop (0+0)).take (n*65))).length=n,n<aW,aN (av (((ah l).drop (0+0)).take (n*65))),aF.enc (aO (av (((ah l).drop (0+0)).take (n*65))))=aF.enc false]:=by delta oX;kernel_rfl
theorem zero (hH:H=hV) (l:List Nd) (n c:Nat) (ty:TypeId) (h:B32):oX (Γ H hH) 100 body (aG fn [.o (.a (.sld 0 0 0 n c))]) [⟨false,ty,.prv (ah l)⟩] [(5,[.s (aF.enc true)]),(10,[.b true]),(12,[.s (cB32.enc h)])] .ret (M 0) (mem l ty h) [0+0+n*65≤(ah l).length,n≤c,((ah l).drop (0+0)).take (n*65)=ah (av (((ah l).drop (0+0)).take (n*65))),(av (((ah l).drop (0+0)).take (n*65))).length=n,n<aW,aN (av (((ah l).drop (0+0)).take (n*65))),aF.enc (aO (av (((ah l).drop (0+0)).take (n*65))))=aF.enc true,((n:Int)==0)=true,0+1≤1,1≤1,1≤140737488354000,∀z∈(([(0:Int)]).drop 0).take 1,S3.Byt z,cB32.enc (S3.refB ((([(0:Int)]).drop 0).take 1))=cB32.enc h]:=by delta oX;kernel_rfl
theorem good (hH:H=hV) (l:List Nd) (n c:Nat) (ty:TypeId) (x:Nd) (h:B32):oX (Γ H hH) 100 body (aG fn [.o (.a (.sld 0 0 0 n c))]) [⟨false,ty,.prv (ah l)⟩] [(5,[.s (aF.enc true)]),(10,[.b false]),(14,[.s (cNd.enc x)]),(16,[.s (cB32.enc h)])] .ret (M 0) (mem l ty h) [0+0+n*65≤(ah l).length,n≤c,((ah l).drop (0+0)).take (n*65)=ah (av (((ah l).drop (0+0)).take (n*65))),(av (((ah l).drop (0+0)).take (n*65))).length=n,n<aW,aN (av (((ah l).drop (0+0)).take (n*65))),aF.enc (aO (av (((ah l).drop (0+0)).take (n*65))))=aF.enc true,((n:Int)==0)=false,0+0+n*65≤(ah l).length,n≤c,((ah l).drop (0+0)).take (n*65)=ah (av (((ah l).drop (0+0)).take (n*65))),(av (((ah l).drop (0+0)).take (n*65))).length=n,n<aW,1≤n,aN (av (((ah l).drop (0+0)).take (n*65))),aO (av (((ah l).drop (0+0)).take (n*65)))=true,cNd.enc (aQ H (av (((ah l).drop (0+0)).take (n*65))))=cNd.enc x,0+67≤67,67≤67,67≤140737488354000,∀z∈((rtB x).drop 0).take 67,S3.Byt z,cB32.enc (S3.refB (((rtB x).drop 0).take 67))=cB32.enc h]:=by delta oX;kernel_rfl
theorem run (hH:H=hV) (E:B32) (hE':E=hE) (S:Nd→B32) (hS':S=hS) (l:List Nd) (n c:Nat) (ty:TypeId) (hn:l.length=n) (hm:n<aW) (hc:n≤c) (hok:aN l):aB Tryd.prog GT 1 body (aG fn [.o (.a (.sld 0 0 0 n c))]) [⟨false,ty,.prv (ah l)⟩] (aD tys fn (aR (hsS (bD H E S l)) .none)):=by
 obtain⟨y1,y2⟩:=apN_two n hn
 have hl:(ah l).length=n*65:=by rw[←hn];exact aS l
 unfold bD
 cases ha:aO l with
 | false=>
  rw[cond_false]
  exact Runs.au aj mixed (bad H hH l n c ty) ⟨by omega,hc,y1,by rw[y2];exact hn,hm,by rw[y2];exact hok,by rw[y2,ha],trivial⟩ (ids _ _ _ _) rfl fun g=>aD.ret (zr _ _ _ _ g) rfl
 | true=>
  rw[cond_true]
  rcases Nat.eq_zero_or_pos n with h0 | h0
  ·rw[beq0_t (by omega),cond_true]
   refine Runs.au aj mixed (zero H hH l n c ty E) ⟨by omega,hc,y1,by rw[y2];exact hn,hm,by rw[y2];exact hok,by rw[y2,ha],by rw[beq_iff_eq];omega,by omega,by omega,by omega,?_,?_,trivial⟩ (ids _ _ _ _) rfl fun g=>aD.ret (zr _ _ _ _ g) rfl
   ·rw[dt (n:=1) rfl];exact byt0
   ·rw[dt (n:=1) rfl,hE']
    rfl
  ·have hz:((n:Int)==0)=false:=by rw[←Bool.not_eq_true,beq_iff_eq];omega
   rw[beq0_f (by omega),cond_false]
   have hA:=(ap_iff hok).1 ha
   have okx:=(join_good H (fun a b=>by rw[hH];exact hV_ok a b) hA (by rw[←List.length_pos_iff];omega)).2.1
   refine Runs.au aj mixed (good H hH l n c ty (aQ H l) (S (aQ H l))) ⟨by omega,hc,y1,by rw[y2];exact hn,hm,by rw[y2];exact hok,by rw[y2,ha],hz,by omega,hc,y1,by rw[y2];exact hn,hm,h0,by rw[y2];exact hok,by rw[y2,ha],by rw[y2],by omega,by omega,by omega,?_,?_,trivial⟩ (ids _ _ _ _) rfl fun g=>aD.ret (zr _ _ _ _ g) rfl
   ·rw[dt (n:=67) rfl];exact rtB_byt okx
   ·rw[dt (n:=67) rfl,hS']
    rfl
theorem nil_ok (hH:H=hV) (E:B32) (hE':E=hE) (S:Nd→B32) (hS':S=hS):Holds [0+1≤1,1≤1,1≤140737488354000,∀z∈(([(0:Int)]).drop 0).take 1,S3.Byt z,cB32.enc (S3.refB ((([(0:Int)]).drop 0).take 1))=cB32.enc E]:=⟨by omega,by omega,by omega,by rw[dt (n:=1) rfl];exact byt0,by rw[dt (n:=1) rfl,hE'];rfl,trivial⟩
end
def spec (H:Nd→Nd→B32) (E:B32) (S:Nd→B32):List PArg→Option (SV × LEff × Cst)
 | [.winv _ vs n ty]=>some (hsS (bD H E S (av vs)),.none,[vs=ah (av vs),(av vs).length=n,n<aW,aN (av vs)])
 | [.val (.o (.a (.v (.slice a 0 0))))]=>some (hsS (E,0),.none,[])
 | _=>none
noncomputable def con (H:Nd→Nd→B32) (hH:H=hV) (E:B32) (hE':E=hE) (S:Nd→B32) (hS':S=hS):Con Tryd.prog GT:=Con.parts aj 34 fn Tryd.func34 (by kernel_rfl) (c:=body) (by kernel_rfl) [.winv 65] (spec H E S)
 (fun ps r e p h hp=>by
  unfold spec at h
  split at h<;>cases h
  ·exact⟨rfl,fun b hb=>by simp only[aJ,PArg.blk,List.append_nil,List.nil_append,List.mem_singleton] at hb;rw[hb]⟩
  ·exact⟨rfl,fun b hb=>by simp[aJ,PArg.blk] at hb⟩)
 (fun ps r e p cap h hp hi=>by
  unfold spec at h
  split at h<;>cases h
  ·rename_i s vs n ty
   obtain⟨p1,p2,p3,p4,_⟩:=hp
   have q:=run H hH E hE' S hS' (av vs) n (cap 0) ty p2 p3 hi.1.2 p4
   rw[←p1] at q
   exact q
  ·exact runs_of_out1 aj mixed (by kernel_rfl) (nil H hH _ E) (nil_ok H hH E hE' S hS'))
end rrt
end Go.Proofs.YtdccehmekkcheaaDoor
