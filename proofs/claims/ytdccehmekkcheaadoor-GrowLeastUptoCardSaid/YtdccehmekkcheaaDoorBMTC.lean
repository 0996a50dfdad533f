/- Packages tree, beaconref11: halves of nodes: contracts. -/
import Derived.Test.YtdccehmekkcheaaDoorBFo
import Derived.Test.YtdccehmekkcheaaDoorBMTB
namespace Go.Proofs.YtdccehmekkcheaaDoor
open Go Go.Eng Go.RowKit
set_option linter.unusedVariables false
set_option linter.unusedSimpArgs false
set_option maxRecDepth 100000
theorem advS_eq {c k:Nat} (h:k<c):advS c k 0 65=k*65:=by
 unfold advS
 rw[if_neg (by omega),Nat.zero_add]
theorem mono_halves {l:List Nd} {c k:Nat} (h:Halves l c k):MonoB l c k:=⟨Nat.le_of_lt h.kl,h.left,h.right⟩
theorem ld_off (l:List Nd) {i n:Nat} (hn:l.length=n) (hi:i<n):0+(offI 0 (i:Int) 65+1)+32≤(ah l).length∧SV.o (.g (aI (ah l) (0+(offI 0 (i:Int) 65+1)) 32))=cB32.enc (l.getD i zn).pre:=by
 have hl:(ah l).length=n*65:=by rw[←hn];exact bn l
 have hb:i*65+65≤n*65:=by have:=Nat.mul_le_mul_right 65 (show i+1≤n by omega);omega
 have ho:0+(offI 0 (i:Int) 65+1)=i*65+1:=by rw[offI_eq];simp
 rw[ho]
 exact⟨by omega,ld_pre l (by omega)⟩
namespace spl
theorem run (l:List Nd) (n c:Nat) (ty:TypeId) (hn:l.length=n) (hm:n<bg) (h2:2≤n) (hc:n≤c) (hok:aT l) (hap:aL l=true):
  aB Tryd.prog GT 1 body (aG fn [.o (.a (.sld 0 0 0 n c))]) [⟨false,ty,.prv (ah l)⟩] (aF tys fn (aZ (.t [.a (.sld 0 0 0 (splK l (topC l)) c),.a (.sld 0 0 (splK l (topC l)*65) (n-splK l (topC l)) (c-splK l (topC l))),.a (int1 .i64 (topC l:Nat))]) .none)):=by
 have hA:=(ap_iff hok).1 hap
 have hs:=halves hA (by omega)
 have k0:=hs.k0
 have kl:=hs.kl
 have c256:=hs.c256
 have hl:(ah l).length=n*65:=by rw[←hn];exact bn l
 have hY:=dtn hn
 obtain⟨a1,a2⟩:=ld_off l hn (show 0<n by omega)
 obtain⟨b1,b2⟩:=ld_off l hn (show n-1<n by omega)
 have hw:IntKind.i64.wrap ((n:Int)-1)=((n-1:Nat):Int):=by unfold bg at hm;rw[IntKind.wrap_i64];omega
 have ok0:=hok.at (show 0<l.length by omega)
 have ok1:=hok.at (show n-1<l.length by omega)
 refine Runs.av aj mixed (s l n c ty (splK l (topC l)) (splK l (topC l)*65) ((n-1:Nat):Int) (topC l:Nat) (l.getD 0 zn).pre (l.getD (n-1) zn).pre)
  ⟨by omega,by omega,a1,a2,hw,by omega,by omega,b1,b2,ok0.1,ok1.1,by rw[show n-1=l.length-1 by omega];rfl,by omega,by rw[hY,aU],by rw[hY,aU];exact hn,rfl,hm,by omega,by omega,
   by rw[hY,aU];exact hok,by rw[hY,aU];exact mono_halves hs,by rw[hY,aU];rfl,by omega,by omega,by omega,by omega,by omega,by omega,by rw[advS_eq (by omega)],trivial⟩ (ids _ _ _ _ _ _ _) rfl fun g=>aF.ret (zr _ _ _ _ _ _ _ g) rfl
def spec (ys:List Value) (n c:Nat):List SV→Option (SV × Cst)
 | []=>some (.t [.a (.sld 0 0 0 (splK (au ys) (topC (au ys))) c),.a (.sld 0 0 (splK (au ys) (topC (au ys))*65) (n-splK (au ys) (topC (au ys))) (c-splK (au ys) (topC (au ys)))),.a (int1 .i64 (topC (au ys):Nat))],[ys=ah (au ys),(au ys).length=n,n<bg,2≤n,aT (au ys),aL (au ys)=true])
 | _=>none
noncomputable def con:Con Tryd.prog GT:=Con.win aj 79 fn Tryd.func79 (by kernel_rfl) (c:=body) (by kernel_rfl) 65 spec
 (fun ys n cp rest r p h=>by
  unfold spec at h
  split at h<;>cases h
  rfl)
 (fun ys n cp ty rest r p h hp hl hc hr=>by
  unfold spec at h
  split at h<;>cases h
  obtain⟨p1,p2,p3,p4,p5,p6,_⟩:=hp
  have q:=run (au ys) n cp ty p2 p3 p4 hc p5 p6
  rw[←p1] at q
  exact q)
end spl
end Go.Proofs.YtdccehmekkcheaaDoor
namespace Go.Proofs.YtdccehmekkcheaaDoor
open Go Go.Eng Go.RowKit
set_option linter.unusedVariables false
set_option linter.unusedSimpArgs false
set_option maxRecDepth 100000
noncomputable def hV (a b:Nd):B32:=shaV (innB a b)
theorem hV_ok (a b:Nd):BOk (hV a b):=sha_ok _
namespace tjn
noncomputable abbrev fn:=Tryd.f60
noncomputable def body:Code:=bF fn
def IH (H:Nd→Nd→B32) (N:Nat):Prop:=∀(l:List Nd) (n c:Nat) (ty:TypeId),l.length=n→n<N→1≤n→n≤c→aT l→aL l=true→
 aB Tryd.prog GT 1 body (aG fn [.o (.a (.sld 0 0 0 n c))]) [⟨false,ty,.prv (ah l)⟩] (aF tys fn (aZ (cNd.enc (aP H l)) .none))
def spec (H:Nd→Nd→B32) (N:Nat):List PArg→Option (SV × LEff × Cst)
 | [.winv _ vs n ty]=>some (cNd.enc (aP H (au vs)),.none,[vs=ah (au vs),(au vs).length=n,n<N,1≤n,aT (au vs),aL (au vs)=true])
 | _=>none
noncomputable def con (H:Nd→Nd→B32) (N:Nat) (ih:IH H N):Con Tryd.prog GT:=Con.parts aj 60 fn Tryd.func60 (by kernel_rfl) (c:=body) (by kernel_rfl) [.winv 65] (spec H N)
 (fun ps r e p h hp=>by
  unfold spec at h
  split at h<;>cases h
  exact⟨rfl,fun b hb=>by simp only[aM,PArg.blk,List.append_nil,List.nil_append,List.mem_singleton] at hb;rw[hb]⟩)
 (fun ps r e p cap h hp hi=>by
  unfold spec at h
  split at h<;>cases h
  rename_i s vs n ty
  obtain⟨p1,p2,p3,p4,p5,p6,_⟩:=hp
  obtain⟨⟨_,hcap⟩,_⟩:=hi
  have q:=ih (au vs) n (cap 0) ty p2 p3 p4 hcap p5 p6
  rw[←p1] at q
  exact q)
noncomputable def Γ (H:Nd→Nd→B32) (N:Nat) (ih:IH H N):Cons Tryd.prog GT:=[con H N ih,spl.con,tfst.con,tinn.con,S3.s256_con]
def M:List (Option SV):=aD 32 0 [(2,.o (.a (.ptr 1 0)))]
def mem (l:List Nd) (ty:TypeId) (z:Nd):List Blk:=[⟨false,ty,.prv (ah l)⟩,⟨true,33,.lit z.row⟩]
theorem ids (l:List Nd) (ty:TypeId) (z:Nd):oI M (mem l ty z):=by delta oI;kernel_rfl
section
variable (H:Nd→Nd→B32) (N:Nat) (ih:IH H N) (l:List Nd) (n c:Nat) (ty:TypeId)
theorem one (x:Nd):oX (Γ H N ih) 100 body (aG fn [.o (.a (.sld 0 0 0 n c))]) [⟨false,ty,.prv (ah l)⟩] [(8,[.b true]),(11,[.ds (cNd.enc x)])] .ret M (mem l ty x) [((n:Int)==1)=true,0≤(0:Int),(0:Int)<n,0+offI 0 (0:Int) 65+65≤(ah l).length,SV.o (.g (aI (ah l) (0+offI 0 (0:Int) 65) 65))=cNd.enc x]:=by delta oX;kernel_rfl
theorem two (k o:Nat) (v:Int) (a f h:B32) (x y:Nd):oX (Γ H N ih) 100 body (aG fn [.o (.a (.sld 0 0 0 n c))]) [⟨false,ty,.prv (ah l)⟩] [(8,[.b false]),(14,[.s (.t [.a (.sld 0 0 0 k c),.a (.sld 0 0 o (n-k) (c-k)),.a (int1 .i64 v)])]),(22,[.ds (cB32.enc a)]),(24,[.s (cB32.enc f)]),(26,[.s (cNd.enc x)]),(28,[.s (cNd.enc y)]),(30,[.s (cB32.enc h)])] .ret M (mem l ty ⟨v,f,h⟩) [((n:Int)==1)=false,0+0+n*65≤(ah l).length,n≤c,((ah l).drop (0+0)).take (n*65)=ah (au (((ah l).drop (0+0)).take (n*65))),(au (((ah l).drop (0+0)).take (n*65))).length=n,n<bg,2≤n,aT (au (((ah l).drop (0+0)).take (n*65))),aL (au (((ah l).drop (0+0)).take (n*65)))=true,SV.t [.a (.sld 0 0 0 (splK (au (((ah l).drop (0+0)).take (n*65))) (topC (au (((ah l).drop (0+0)).take (n*65))))) c),.a (.sld 0 0 (0+(0+(splK (au (((ah l).drop (0+0)).take (n*65))) (topC (au (((ah l).drop (0+0)).take (n*65)))))*65)) (n-(splK (au (((ah l).drop (0+0)).take (n*65))) (topC (au (((ah l).drop (0+0)).take (n*65)))))) (c-(splK (au (((ah l).drop (0+0)).take (n*65))) (topC (au (((ah l).drop (0+0)).take (n*65))))))),.a (int1 .i64 (topC (au (((ah l).drop (0+0)).take (n*65))):Nat))]=SV.t [.a (.sld 0 0 0 k c),.a (.sld 0 0 o (n-k) (c-k)),.a (int1 .i64 v)],0≤(0:Int),(0:Int)<n,0+(offI 0 (0:Int) 65+1)+32≤(ah l).length,SV.o (.g (aI (ah l) (0+(offI 0 (0:Int) 65+1)) 32))=cB32.enc a,BOk a,0≤v,v≤256,cB32.enc (fstV a v.toNat)=cB32.enc f,0+0+k*65≤(ah l).length,k≤c,((ah l).drop (0+0)).take (k*65)=ah (au (((ah l).drop (0+0)).take (k*65))),(au (((ah l).drop (0+0)).take (k*65))).length=k,k<N,1≤k,aT (au (((ah l).drop (0+0)).take (k*65))),aL (au (((ah l).drop (0+0)).take (k*65)))=true,cNd.enc (aP H (au (((ah l).drop (0+0)).take (k*65))))=cNd.enc x,0+o+(n-k)*65≤(ah l).length,(n-k)≤(c-k),((ah l).drop (0+o)).take ((n-k)*65)=ah (au (((ah l).drop (0+o)).take ((n-k)*65))),(au (((ah l).drop (0+o)).take ((n-k)*65))).length=(n-k),(n-k)<N,1≤(n-k),aT (au (((ah l).drop (0+o)).take ((n-k)*65))),aL (au (((ah l).drop (0+o)).take ((n-k)*65)))=true,cNd.enc (aP H (au (((ah l).drop (0+o)).take ((n-k)*65))))=cNd.enc y,0+133≤133,133≤133,cB32.enc (S3.finB (S3.bC S3.S0 (((innB x y).drop 0).take 133)))=cB32.enc h]:=by delta oX;kernel_rfl
end
theorem zr (l:List Nd) (ty:TypeId) (z:Nd) (g:Nat→SV):eRes tys (fill g 0 M) (fun k=>(mem l ty z)[k]?) fn.results.toList=some [.g z.row]:=by kernel_rfl
end tjn
end Go.Proofs.YtdccehmekkcheaaDoor
namespace Go.Proofs.YtdccehmekkcheaaDoor
open Go Go.Eng Go.RowKit
set_option linter.unusedVariables false
set_option linter.unusedSimpArgs false
set_option maxRecDepth 100000
theorem dtA (l:List Nd) (k:Nat):((ah l).drop (0+0)).take (k*65)=ah (l.take k):=by rw[Nat.add_zero,List.drop_zero,nvals_take]
theorem dtB {l:List Nd} {n:Nat} (hn:l.length=n) (k:Nat):((ah l).drop (0+k*65)).take ((n-k)*65)=ah (l.drop k):=by
 rw[Nat.zero_add,nvals_drop,List.take_of_length_le (by rw[bn,List.length_drop,hn];exact Nat.le_refl _)]
theorem ld_node {l:List Nd} {n:Nat} (hn:l.length=n) {i:Nat} (hi:i<n):0+offI 0 (i:Int) 65+65≤(ah l).length∧SV.o (.g (aI (ah l) (0+offI 0 (i:Int) 65) 65))=cNd.enc (l.getD i zn):=by
 have hl:(ah l).length=n*65:=by rw[←hn];exact bn l
 have hb:i*65+65≤n*65:=by have:=Nat.mul_le_mul_right 65 (show i+1≤n by omega);omega
 exact⟨by rw[offs,hl];omega,by rw[offs];exact ld_nd l (by omega)⟩
theorem allOk_take {l:List Nd} (h:aT l) (k:Nat):aT (l.take k):=fun x hx=>h x (List.mem_of_mem_take hx)
theorem allOk_drop {l:List Nd} (h:aT l) (k:Nat):aT (l.drop k):=fun x hx=>h x (List.mem_of_mem_drop hx)
theorem parts_ok {l:List Nd} {n k:Nat} (hn:l.length=n) (hok:aT l) (hap:aL l=true) (hk:k≤n):
  (((ah l).drop (0+0)).take (k*65)=ah (au (((ah l).drop (0+0)).take (k*65)))∧au (((ah l).drop (0+0)).take (k*65))=l.take k∧(l.take k).length=k∧aT (l.take k)∧aL (l.take k)=true)∧
  (((ah l).drop (0+k*65)).take ((n-k)*65)=ah (au (((ah l).drop (0+k*65)).take ((n-k)*65)))∧au (((ah l).drop (0+k*65)).take ((n-k)*65))=l.drop k∧(l.drop k).length=n-k∧aT (l.drop k)∧aL (l.drop k)=true):=by
 have hA:=(ap_iff hok).1 hap
 rw[dtA,dtB hn,aU,aU]
 exact⟨⟨rfl,rfl,by rw[List.length_take];omega,allOk_take hok k,(ap_iff (allOk_take hok k)).2 (ap_take hA k)⟩,⟨rfl,rfl,by rw[List.length_drop,hn],allOk_drop hok k,(ap_iff (allOk_drop hok k)).2 (ap_drop hA k)⟩⟩
namespace tjn
theorem all (H:Nd→Nd→B32) (hH:H=hV):∀N,N≤bg→IH H N
 | 0,_=>fun l n c ty hn h=>absurd h (by omega)
 | N+1,hN=>by
  have ih:=all H hH N (by omega)
  intro l n c ty hn hlt h1 hc hok hap
  by_cases e1:n=1
  ·obtain⟨a1,a2⟩:=ld_node hn (show 0<n by omega)
   refine Runs.av aj mixed (one H N ih l n c ty _) ⟨by rw[beq_iff_eq];omega,by omega,by omega,a1,a2,trivial⟩ (ids _ _ _) rfl fun g=>aF.ret (zr _ _ _ g) ?_
   rw[join_one H (by omega)]
   rfl
  ·have hA:=(ap_iff hok).1 hap
   have hs:=halves hA (by omega)
   have k0:=hs.k0
   have kl:=hs.kl
   have c256:=hs.c256
   have hY:=dtn hn
   have ok0:=hok.at (show 0<l.length by omega)
   have hl:(ah l).length=n*65:=by rw[←hn];exact bn l
   obtain⟨a1,a2⟩:=ld_off l hn (show 0<n by omega)
   obtain⟨⟨q1,q2,q3,q4,q5⟩,r1,r2,r3,r4,r5⟩:=parts_ok hn hok hap (show splK l (topC l)≤n by omega)
   have hk1:splK l (topC l)*65≤n*65:=Nat.mul_le_mul_right _ (by omega)
   have hk2:(n-splK l (topC l))*65=n*65-splK l (topC l)*65:=Nat.sub_mul _ _ _
   refine Runs.av aj mixed (two H N ih l n c ty (splK l (topC l)) (splK l (topC l)*65) (topC l:Nat) (l.getD 0 zn).pre (fstV (l.getD 0 zn).pre (topC l)) (H (aP H (l.take (splK l (topC l)))) (aP H (l.drop (splK l (topC l))))) (aP H (l.take (splK l (topC l)))) (aP H (l.drop (splK l (topC l)))))
    ⟨by rw[←Bool.not_eq_true,beq_iff_eq];omega,by omega,hc,by rw[hY,aU],by rw[hY,aU];exact hn,by omega,by omega,by rw[hY,aU];exact hok,by rw[hY,aU];exact hap,by rw[hY,aU,Nat.zero_add,Nat.zero_add],
     by omega,by omega,a1,a2,ok0.1,by omega,by omega,rfl,
     by omega,by omega,q1,by rw[q2];exact q3,by omega,by omega,by rw[q2];exact q4,by rw[q2];exact q5,by rw[q2],
     by omega,by omega,r1,by rw[r2];exact r3,by omega,by omega,by rw[r2];exact r4,by rw[r2];exact r5,by rw[r2],
     by omega,by omega,?_,trivial⟩ (ids _ _ _) rfl fun g=>aF.ret (zr _ _ _ g) ?_
   ·rw[dt (n:=133) rfl,sha_of (by show 133≤_;omega),hH]
    rfl
   ·rw[join_two H hA (by omega)]
    rfl
end tjn
end Go.Proofs.YtdccehmekkcheaaDoor
namespace Go.Proofs.YtdccehmekkcheaaDoor
open Go Go.Eng Go.RowKit
set_option linter.unusedVariables false
set_option linter.unusedSimpArgs false
set_option maxRecDepth 100000
theorem tjn.ih (H:Nd→Nd→B32) (hH:H=hV):tjn.IH H bg:=tjn.all H hH bg (Nat.le_refl _)
noncomputable def tjn.conF (H:Nd→Nd→B32) (hH:H=hV):Con Tryd.prog GT:=tjn.con H bg (tjn.ih H hH)
def rootV (H:Nd→Nd→B32) (e:B32) (S:Nd→B32) (l:List Nd):B32 × Int:=bif aL l then (bif Nat.beq l.length 0 then (e,0) else (S (aP H l),0)) else (zB,1)
def hsS (x:B32 × Int):SV:= .t [.g (cB32.row x.1),.a (int1 .i64 x.2)]
noncomputable def hE:B32:=shaV [0]
noncomputable def hS (n:Nd):B32:=shaV (rtB n)
theorem beq0_t {n:Nat} (h:n=0):Nat.beq n 0=true:=by subst h;rfl
theorem beq0_f {n:Nat} (h:n≠0):Nat.beq n 0=false:=by rw[←Bool.not_eq_true,Nat.beq_eq];exact h
theorem apN_two {l:List Nd} (n:Nat) (hn:l.length=n):((ah l).drop (0+0)).take (n*65)=ah (au (((ah l).drop (0+0)).take (n*65)))∧au (((ah l).drop (0+0)).take (n*65))=l:=by
 rw[dtn hn,aU];exact⟨rfl,rfl⟩
namespace trt
noncomputable abbrev fn:=Tryd.f25
noncomputable def body:Code:=bF fn
noncomputable def Γ (H:Nd→Nd→B32) (hH:H=hV):Cons Tryd.prog GT:=[tap.con,tjn.conF H hH,ttop.con,S3.s256_con]
def M (e:Int):List (Option SV):=aD 19 0 [(2,.o (.a (.ptr 1 0))),(3,.o (.a (int1 .i64 e)))]
def mem (l:List Nd) (ty:TypeId) (z:B32):List Blk:=[⟨false,ty,.prv (ah l)⟩,⟨true,24,.lit (cB32.row z)⟩]
theorem ids (l:List Nd) (ty:TypeId) (z:B32) (e:Int):oI (M e) (mem l ty z):=by delta oI;kernel_rfl
theorem zr (l:List Nd) (ty:TypeId) (z:B32) (e:Int) (g:Nat→SV):eRes tys (fill g 0 (M e)) (fun k=>(mem l ty z)[k]?) fn.results.toList=some [.g (cB32.row z),.a (int1 .i64 e)]:=by kernel_rfl
section
variable (H:Nd→Nd→B32)
theorem nil (hH:H=hV) (a:Option Addr) (h:B32):runOut (Γ H hH) tys fn 100 [.o (.a (.v (.slice a 0 0)))] [(14,[.s (cB32.enc h)])]=some (hsS (h,0),[0+1≤1,1≤1,cB32.enc (S3.finB (S3.bC S3.S0 ((([(0:Int)]).drop 0).take 1)))=cB32.enc h]):=by kernel_rfl
theorem bad (hH:H=hV) (l:List Nd) (n c:Nat) (ty:TypeId):oX (Γ H hH) 100 body (aG fn [.o (.a (.sld 0 0 0 n c))]) [⟨false,ty,.prv (ah l)⟩] [(6,[.s (ay.enc false)])] .ret (M 1) (mem l ty zB) [0+0+n*65≤(ah l).length,n≤c,((ah l).drop (0+0)).take (n*65)=ah (au (((ah l).drop (0+0)).take (n*65))),(au (((ah l).drop (0+0)).take (n*65))).length=n,n<bg,aT (au (((ah l).drop (0+0)).take (n*65))),ay.enc (aL (au (((ah l).drop (0+0)).take (n*65))))=ay.enc false]:=by delta oX;kernel_rfl
theorem zero (hH:H=hV) (l:List Nd) (n c:Nat) (ty:TypeId) (h:B32):oX (Γ H hH) 100 body (aG fn [.o (.a (.sld 0 0 0 n c))]) [⟨false,ty,.prv (ah l)⟩] [(6,[.s (ay.enc true)]),(12,[.b true]),(14,[.s (cB32.enc h)])] .ret (M 0) (mem l ty h) [0+0+n*65≤(ah l).length,n≤c,((ah l).drop (0+0)).take (n*65)=ah (au (((ah l).drop (0+0)).take (n*65))),(au (((ah l).drop (0+0)).take (n*65))).length=n,n<bg,aT (au (((ah l).drop (0+0)).take (n*65))),ay.enc (aL (au (((ah l).drop (0+0)).take (n*65))))=ay.enc true,((n:Int)==0)=true,0+1≤1,1≤1,cB32.enc (S3.finB (S3.bC S3.S0 ((([(0:Int)]).drop 0).take 1)))=cB32.enc h]:=by delta oX;kernel_rfl
theorem good (hH:H=hV) (l:List Nd) (n c:Nat) (ty:TypeId) (x:Nd) (h:B32):oX (Γ H hH) 100 body (aG fn [.o (.a (.sld 0 0 0 n c))]) [⟨false,ty,.prv (ah l)⟩] [(6,[.s (ay.enc true)]),(12,[.b false]),(16,[.s (cNd.enc x)]),(18,[.s (cB32.enc h)])] .ret (M 0) (mem l ty h) [0+0+n*65≤(ah l).length,n≤c,((ah l).drop (0+0)).take (n*65)=ah (au (((ah l).drop (0+0)).take (n*65))),(au (((ah l).drop (0+0)).take (n*65))).length=n,n<bg,aT (au (((ah l).drop (0+0)).take (n*65))),ay.enc (aL (au (((ah l).drop (0+0)).take (n*65))))=ay.enc true,((n:Int)==0)=false,0+0+n*65≤(ah l).length,n≤c,((ah l).drop (0+0)).take (n*65)=ah (au (((ah l).drop (0+0)).take (n*65))),(au (((ah l).drop (0+0)).take (n*65))).length=n,n<bg,1≤n,aT (au (((ah l).drop (0+0)).take (n*65))),aL (au (((ah l).drop (0+0)).take (n*65)))=true,cNd.enc (aP H (au (((ah l).drop (0+0)).take (n*65))))=cNd.enc x,0+67≤67,67≤67,cB32.enc (S3.finB (S3.bC S3.S0 (((rtB x).drop 0).take 67)))=cB32.enc h]:=by delta oX;kernel_rfl
theorem run (hH:H=hV) (E:B32) (hE':E=hE) (S:Nd→B32) (hS':S=hS) (l:List Nd) (n c:Nat) (ty:TypeId) (hn:l.length=n) (hm:n<bg) (hc:n≤c) (hok:aT l):aB Tryd.prog GT 1 body (aG fn [.o (.a (.sld 0 0 0 n c))]) [⟨false,ty,.prv (ah l)⟩] (aF tys fn (aZ (hsS (rootV H E S l)) .none)):=by
 obtain⟨y1,y2⟩:=apN_two n hn
 have hl:(ah l).length=n*65:=by rw[←hn];exact bn l
 unfold rootV
 cases ha:aL l with
 | false=>
  rw[cond_false]
  exact Runs.av aj mixed (bad H hH l n c ty) ⟨by omega,hc,y1,by rw[y2];exact hn,hm,by rw[y2];exact hok,by rw[y2,ha],trivial⟩ (ids _ _ _ _) rfl fun g=>aF.ret (zr _ _ _ _ g) rfl
 | true=>
  rw[cond_true]
  rcases Nat.eq_zero_or_pos n with h0 | h0
  ·rw[beq0_t (by omega),cond_true]
   refine Runs.av aj mixed (zero H hH l n c ty E) ⟨by omega,hc,y1,by rw[y2];exact hn,hm,by rw[y2];exact hok,by rw[y2,ha],by rw[beq_iff_eq];omega,by omega,by omega,?_,trivial⟩ (ids _ _ _ _) rfl fun g=>aF.ret (zr _ _ _ _ g) rfl
   rw[dt (n:=1) rfl,sha_of (by show 1≤_;omega),hE']
   rfl
  ·have hz:((n:Int)==0)=false:=by rw[←Bool.not_eq_true,beq_iff_eq];omega
   rw[beq0_f (by omega),cond_false]
   have hA:=(ap_iff hok).1 ha
   have okx:=(join_good H (fun a b=>by rw[hH];exact hV_ok a b) hA (by rw[←List.length_pos_iff];omega)).2.1
   refine Runs.av aj mixed (good H hH l n c ty (aP H l) (S (aP H l))) ⟨by omega,hc,y1,by rw[y2];exact hn,hm,by rw[y2];exact hok,by rw[y2,ha],hz,by omega,hc,y1,by rw[y2];exact hn,hm,h0,by rw[y2];exact hok,by rw[y2,ha],by rw[y2],by omega,by omega,?_,trivial⟩ (ids _ _ _ _) rfl fun g=>aF.ret (zr _ _ _ _ g) rfl
   rw[dt (n:=67) rfl,sha_of (by show 67≤_;omega),hS']
   rfl
theorem nil_ok (hH:H=hV) (E:B32) (hE':E=hE) (S:Nd→B32) (hS':S=hS):Holds [0+1≤1,1≤1,cB32.enc (S3.finB (S3.bC S3.S0 ((([(0:Int)]).drop 0).take 1)))=cB32.enc E]:=⟨by omega,by omega,by rw[dt (n:=1) rfl,sha_of (by show 1≤_;omega),hE'];rfl,trivial⟩
end
def spec (H:Nd→Nd→B32) (E:B32) (S:Nd→B32):List PArg→Option (SV × LEff × Cst)
 | [.winv _ vs n ty]=>some (hsS (rootV H E S (au vs)),.none,[vs=ah (au vs),(au vs).length=n,n<bg,aT (au vs)])
 | [.val (.o (.a (.v (.slice a 0 0))))]=>some (hsS (E,0),.none,[])
 | _=>none
noncomputable def con (H:Nd→Nd→B32) (hH:H=hV) (E:B32) (hE':E=hE) (S:Nd→B32) (hS':S=hS):Con Tryd.prog GT:=Con.parts aj 25 fn Tryd.func25 (by kernel_rfl) (c:=body) (by kernel_rfl) [.winv 65] (spec H E S)
 (fun ps r e p h hp=>by
  unfold spec at h
  split at h<;>cases h
  ·exact⟨rfl,fun b hb=>by simp only[aM,PArg.blk,List.append_nil,List.nil_append,List.mem_singleton] at hb;rw[hb]⟩
  ·exact⟨rfl,fun b hb=>by simp[aM,PArg.blk] at hb⟩)
 (fun ps r e p cap h hp hi=>by
  unfold spec at h
  split at h<;>cases h
  ·rename_i s vs n ty
   obtain⟨p1,p2,p3,p4,_⟩:=hp
   have q:=run H hH E hE' S hS' (au vs) n (cap 0) ty p2 p3 hi.1.2 p4
   rw[←p1] at q
   exact q
  ·exact runs_of_out1 aj mixed (by kernel_rfl) (nil H hH _ E) (nil_ok H hH E hE' S hS'))
end trt
end Go.Proofs.YtdccehmekkcheaaDoor
