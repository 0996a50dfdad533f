/- SameNodes; Open of both sides: contracts. -/
import Derived.Test.YtdccehmekkcheaaDoorCFo
import Derived.Test.YtdccehmekkcheaaDoorCMTE
import Derived.Test.YtdccehmekkcheaaDoorCTrPl
import Derived.Test.YtdccehmekkcheaaDoorCTLn
set_option linter.unusedSimpArgs false
set_option linter.unusedVariables false
namespace Go.Proofs.YtdccehmekkcheaaDoor
open Go Go.Eng Go.RowKit
set_option maxRecDepth 100000
noncomputable def opT (H:Nd→Nd→B32) (l:List Lf) (x:B32):List Nd:=cK H true (bq l) [x]
noncomputable def opR (H:Nd→Nd→B32) (l:List Lf) (x:B32):List Nd:=bT H true (dU l l.length) [x]
theorem own_ne (H:Nd→Nd→B32) (hH:∀a b,BOk (H a b)) {l:List Nd} (h:Ap l) (h0:l≠[]) (ks:List B32):bT H true l ks≠[]:=fun e=>by
 obtain⟨n,hn⟩:=List.exists_mem_of_ne_nil l h0
 rcases(o7 H hH true h h0 ks).all n hn with⟨p,hp,_⟩ | ⟨q,_⟩
 ·rw[e] at hp;cases hp
 ·cases q
theorem leaf_good {z:Lf} (h:LOk z):nU (bP z):=⟨by show(0:Int)≤256;omega,by show(256:Int)≤256;omega,fst_all h.1 (by show 256≤(256:Int).toNat;omega)⟩
theorem mem_rnd {l:List Lf} {n:Nd} (hn:n∈dU l l.length):∃z∈l,bP z=n:=by
 have q:=(qY l l.length (Nat.le_refl _)).mem_iff.1 hn
 rw[qL] at q
 exact List.mem_map.1 q
theorem rnd_ap {l:List Lf} (h:bI l) (hd:fK l l.length=false):Ap (dU l l.length):=by
 have hk:=pz h l.length (Nat.le_refl _)
 refine⟨fun n hn=> ?_,(uf h l.length (Nat.le_refl _) hd).imp_of_mem fun {a b} ha hb hab=> ?_,hk⟩
 ·obtain⟨z,hz,rfl⟩:=mem_rnd hn
  exact leaf_good (h z hz)
 ·have hc:=com_lt (hk a ha).1 (hk b hb).1 hab.ne
  obtain⟨z,hz,rfl⟩:=mem_rnd ha
  obtain⟨y,hy,rfl⟩:=mem_rnd hb
  exact⟨hab,by show _<(256:Int);omega,by show _<(256:Int);omega⟩
theorem kN {l:List Lf} (h:bI l) (hd:fK l l.length=false):bC (bq l)=true:=by
 rw[←rnd_tnd h hd]
 exact(gF (pz h _ (Nat.le_refl _))).2 (rnd_ap h hd)
namespace rop
noncomputable abbrev fn:=Tryd.f39
noncomputable def body:Code:=d9 fn
noncomputable def ΓP (H:Nd→Nd→B32) (hH:H=hV):Cons Tryd.prog GT:=[rnd.conP,rwi.cP H hH]
def MR (r:Nat):List (Option SV):=aD 19 0 [(4,.o (.a (.slg 1 r))),(5,.o (.a (aG .i64 0)))]
section
variable (l:List Lf) (ty:TypeId) (us:List Value) (r:Nat)
def mr:List Blk:=[⟨false,ty,.prv (lvals l)⟩,⟨true,33,.grv 65 us r none⟩]
theorem iR:oI (MR r) (mr l ty us r):=by delta oI;kernel_rfl
theorem zr (g:Nat→SV):eRes tys (fill g 0 (MR r)) (fun k=>(mr l ty us r)[k]?) fn.results.toList=some [.a (.slg 1 r),.a (aG .i64 0)]:=by kernel_rfl
end
theorem sP (H:Nd→Nd→B32) (hH:H=hV) (l:List Lf) (n c:Nat) (ty:TypeId) (x:B32):oN [0,4] (ΓP H hH) 100 body (aK fn [.o (.a (.sld 0 0 0 n c)),ay.enc x]) [⟨false,ty,.prv (lvals l)⟩] [(17,[.dyn])] .ret (MR (bT H true (ak (((ah (dU (av (((lvals l).drop (0+0)).take (n*64))) n)).drop (0+0)).take (n*65))) (aO (((fu x).drop (0+0)).take (1*32)))).length) (mr l ty (ah (bT H true (ak (((ah (dU (av (((lvals l).drop (0+0)).take (n*64))) n)).drop (0+0)).take (n*65))) (aO (((fu x).drop (0+0)).take (1*32))))) (bT H true (ak (((ah (dU (av (((lvals l).drop (0+0)).take (n*64))) n)).drop (0+0)).take (n*65))) (aO (((fu x).drop (0+0)).take (1*32)))).length) [0+0+n*64≤(lvals l).length,n≤c,((lvals l).drop (0+0)).take (n*64)=lvals (av (((lvals l).drop (0+0)).take (n*64))),(av (((lvals l).drop (0+0)).take (n*64))).length=n,n≤4000000,bI (av (((lvals l).drop (0+0)).take (n*64))),fK (av (((lvals l).drop (0+0)).take (n*64))) n=false,0<n,32=1*32,0+0+n*65≤(ah (dU (av (((lvals l).drop (0+0)).take (n*64))) n)).length,n≤n,0+0+1*32≤(fu x).length,1≤1,((ah (dU (av (((lvals l).drop (0+0)).take (n*64))) n)).drop (0+0)).take (n*65)=ah (ak (((ah (dU (av (((lvals l).drop (0+0)).take (n*64))) n)).drop (0+0)).take (n*65))),(ak (((ah (dU (av (((lvals l).drop (0+0)).take (n*64))) n)).drop (0+0)).take (n*65))).length=n,n<4000001,bg (ak (((ah (dU (av (((lvals l).drop (0+0)).take (n*64))) n)).drop (0+0)).take (n*65))),bC (ak (((ah (dU (av (((lvals l).drop (0+0)).take (n*64))) n)).drop (0+0)).take (n*65)))=true,((fu x).drop (0+0)).take (1*32)=aJ (aO (((fu x).drop (0+0)).take (1*32))),(aO (((fu x).drop (0+0)).take (1*32))).length=1,1≤4000000,gq (aO (((fu x).drop (0+0)).take (1*32))),(bT H true (ak (((ah (dU (av (((lvals l).drop (0+0)).take (n*64))) n)).drop (0+0)).take (n*65))) (aO (((fu x).drop (0+0)).take (1*32))))≠[]]:=by delta oN;kernel_rfl
theorem runP (H:Nd→Nd→B32) (hH:H=hV) (l:List Lf) (n c:Nat) (ty:TypeId) (x:B32) (hn:l.length=n) (hm:n≤4000000) (hc:n≤c) (hok:bI l) (hx:BOk x) (h0:0<n) (hd:fK l n=false):aF Tryd.prog GT 1 body (aK fn [.o (.a (.sld 0 0 0 n c)),ay.enc x]) [⟨false,ty,.prv (lvals l)⟩] (aH tys fn (bJ (.t [.a (.slg 0 (opR H l x).length),.a (aG .i64 0)]) (.new 33 (.grv 65 (ah (opR H l x)) (opR H l x).length none)))):=by
 obtain⟨y1,y2⟩:=lfN_two n hn
 have hl:(lvals l).length=n*64:=by rw[←hn];exact bU l
 have hHk:∀a b,BOk (H a b):=fun a b=>by rw[hH];exact gW a b
 have ht:(dU l n).length=n:=pE l n
 have hz:(ah (dU l n)).length=n*65:=by rw[bH,ht]
 obtain⟨z1,z2⟩:=ow n ht
 have hk:bg (dU l n):=pz hok n (by omega)
 have w1:((fu x).drop (0+0)).take (1*32)=fu x:=by rw[Nat.add_zero,List.drop_zero,List.take_of_length_le (by rw[jQ];omega)]
 have w2:aO (fu x)=[x]:=by have:=nD [x];rwa [show aJ [x]=fu x from List.append_nil _] at this
 have w3:fu x=aJ [x]:=(List.append_nil _).symm
 have hab:gq [x]:=fun z hz=>by rw[List.mem_singleton.1 hz];exact hx
 have hA:Ap (dU l n):=by rw[←hn] at hd ⊢;exact rnd_ap hok hd
 have ha:=(gF hk).2 hA
 have hne:bT H true (dU l n) [x]≠[]:=own_ne H hHk hA (by rw[←List.length_pos_iff];omega) _
 have q:=sP H hH l n c ty x
 rw[y2,z2,w1,w2] at q
 unfold opR
 rw[hn]
 exact Runs.aP aj mixed [0,4] q ⟨by omega,hc,(y1.trans (by rw[y2])),hn,hm,hok,hd,h0,rfl,by rw[hz];omega,Nat.le_refl _,by rw[jQ];omega,Nat.le_refl _,dtn ht,ht,by omega,hk,ha,w3,rfl,by omega,hab,hne,trivial⟩ (iR _ _ _ _) rfl fun g=>aH.ret (zr _ _ _ _ g) ⟨1,rfl,rfl⟩
noncomputable def iW (H:Nd→Nd→B32):List aU→Option (SV × dH × Cst)
 | [.winv _ vs n ty,.val v]=>match ay.dec v with
  | some x=>some (.t [.a (.slg 0 (opR H (av vs) x).length),.a (aG .i64 0)],.new 33 (.grv 65 (ah (opR H (av vs) x)) (opR H (av vs) x).length none),[vs=lvals (av vs),(av vs).length=n,n≤4000000,bI (av vs),BOk x,0<n,fK (av vs) n=false])
  | none=>none
 | _=>none
noncomputable def conP (H:Nd→Nd→B32) (hH:H=hV):Con Tryd.prog GT:=Con.parts aj 39 fn Tryd.func39 (by kernel_rfl) (c:=body) (by kernel_rfl) [.winv 64,.val] (iW H)
 (fun ps r e p h hp=>by
  unfold iW at h
  split at h
  ·split at h<;>cases h
   exact⟨rfl,fun b hb=>by simp only[bf,aU.blk,List.append_nil,List.nil_append,List.mem_singleton] at hb;rw[hb]⟩
  ·cases h)
 (fun ps r e p cap h hp hi=>by
  unfold iW at h
  split at h
  ·rename_i s0 vs n ty z0
   split at h<;>cases h
   rename_i x k2
   have e2:=ay.ok _ _ k2
   subst e2
   obtain⟨p1,p2,p3,p4,p5,p6,p7,_⟩:=hp
   have q:=runP H hH (av vs) n (cap 0) ty x p2 p3 hi.1.2 p4 p5 p6 p7
   rw[←p1] at q
   exact q
  ·cases h)
end rop
end Go.Proofs.YtdccehmekkcheaaDoor
