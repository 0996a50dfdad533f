/- Package grow: Stays: run, contracts. -/
import Derived.Test.YtdccehmekkcheaaDoorYGsF
namespace Go.Proofs.YtdccehmekkcheaaDoor
open Go Go.Eng Go.RowKit
set_option linter.unusedVariables false
set_option linter.unusedSimpArgs false
set_option maxRecDepth 100000
def labs (B:List Lf):List B32:=B.map Lf.lab
noncomputable def stT (H:Nd→Nd→B32) (A B:List Lf):List Nd:=aroV H false (tndV A) (labs B)
theorem put_rep {α:Type} {f:α→List Value} {s:Nat} (hf:∀x,(f x).length=s) {d:List Value} (hd:d.length=s) (P:List α) {i n:Nat} (hP:P.length=i) (h:i<n) (x:α):
  putV (i*s) (f x) (P.flatMap f++repV d (n-i))=(P++[x]).flatMap f++repV d (n-(i+1)):=by
 have hl:(P.flatMap f).length=i*s:=by rw[flat_len hf P,hP]
 unfold putV
 rw[List.take_append_of_le_length (by omega),List.take_of_length_le (by omega),List.drop_append,hl,List.drop_eq_nil_of_le (by omega),List.nil_append,hf,show i*s+s-i*s=s by omega]
 rw[show n-i=(n-(i+1))+1 by omega,repV,List.drop_append,hd,Nat.sub_self,List.drop_zero,List.drop_eq_nil_of_le (by omega),List.nil_append,List.flatMap_append,List.append_assoc]
 simp
theorem AllL.app {A B:List Lf} (hA:AllL A) (hB:AllL B):AllL (A++B):=fun z hz=>(List.mem_append.1 hz).elim (hA z) (hB z)
theorem labs_ok {B:List Lf} (h:AllL B):AllB (labs B):=fun x hx=>by
 obtain⟨z,hz,rfl⟩:=List.mem_map.1 hx
 exact(h z hz).1
theorem labs_len (B:List Lf):(labs B).length=B.length:=List.length_map _
theorem labs_take {B:List Lf} {i:Nat} (h:i<B.length):labs (B.take (i+1))=labs (B.take i)++[(B.getD i zl).lab]:=by
 unfold labs
 rw[List.take_succ_eq_append_getElem h,List.map_append,getD_lt h]
 rfl
theorem ne_left {A B:List Lf} (h:((A++B).map leafV).Pairwise NeP):(A.map leafV).Pairwise NeP:=by
 rw[List.map_append] at h
 exact h.sublist (List.sublist_append_left _ _)
theorem ap_left {A B:List Lf} (hA:AllL A) (hB:AllL B) (ha:aM (tndV (A++B))=true):rndD A A.length=false∧aM (tndV A)=true:=by
 have:=ne_dup (ne_left (apart_ne (hA.app hB) ha)) A.length (Nat.le_refl _)
 exact⟨this,tnd_apart hA this⟩
theorem oneLs (l:List Lf):∀v∈lvals l,v.oneCell'=true:=fun v hv=>by
 obtain⟨x,_,hx⟩:=List.mem_flatMap.1 hv
 unfold Lf.vals at hx
 obtain⟨i,_,rfl⟩:=List.mem_map.1 hx
 rfl
namespace gst
noncomputable def Qs (b:Bool) (R:List Nd) (r:SV) (mm:List Blk):Prop:=
 (b=false∧aT (.t [.a (.v (.slice none 0 0)),.a (int1 .i64 1)]) .none r mm)∨(b=true∧R=[]∧aT (.t [.a (.v (.slice none 0 0)),.a (int1 .i64 0)]) .none r mm)∨(b=true∧R≠[]∧aT (.t [.a (.slg 0 R.length),.a (int1 .i64 0)]) (.new 33 (.grv 65 (ah R) R.length none)) r mm)
theorem reg (H:Nd→Nd→B32) (hH:H=hV) (A:List Lf) (n c:Nat) (ty:TypeId) (B:List Lf) (m d:Nat) (ty2:TypeId) (hn:A.length=n) (hm:B.length=m) (hb:n+m≤4000000) (hc:n≤c) (hd:m≤d) (hA:AllL A) (hB:AllL B) {Post:Ex→List SV→List Blk→Prop} (hp:∀g,Post .normal (fill g 0 (M1 n c m d (aM (tndV (A++B))))) (m0 A ty B ty2)) (g:Nat→SV):
  aC Tryd.prog GT 2 (.region gst.i1 (opsOf R1) false) (fill g 0 (M0 n c m d)) (m0 A ty B ty2) Post:=by
 have hYA:((lvals A).drop (0+0)).take (n*64)=lvals A:=dtl hn
 have hYB:((lvals B).drop (0+0)).take (m*64)=lvals B:=dtl hm
 have la:(lvals A).length=n*64:=by rw[←hn];exact aU A
 have lb:(lvals B).length=m*64:=by rw[←hm];exact aU B
 have hab:=hA.app hB
 have lt:(tndV (A++B)).length=n+m:=by rw[tnd_len,List.length_append,hn,hm]
 have lz:(ah (tndV (A++B))).length=(n+m)*65:=by rw[aV,lt]
 have dT:((ah (tndV (A++B))).drop (0+0)).take ((n+m)*65)=ah (tndV (A++B)):=dtn lt
 have hk:=tnd_ok hab
 refine Runs.region ?_
 rcases Nat.eq_zero_or_pos n with h0 | h0
 ·subst h0
  obtain rfl:=List.eq_nil_of_length_eq_zero hn
  refine aJ.aA aj 2 (cQ [] 0 c ty B m d ty2 g) ⟨by omega,rfl,trivial⟩ (diQ [] 0 c ty B m d ty2) rfl fun g=> ?_
  rcases Nat.eq_zero_or_pos m with h1 | h1
  ·subst h1
   obtain rfl:=List.eq_nil_of_length_eq_zero hm
   refine aJ.aH aj 5 [0,1] (qz [] 0 c ty [] 0 d ty2 (aM (tndV [])) g) ?_ (di1 [] 0 c ty [] 0 d ty2 _) rfl fun g=> ?_
   ·rw[show((ah (tndV [])).drop (0+0)).take (0*65)=ah (tndV []) from dtn (by rw[tnd_nil];rfl),aO]
    exact⟨by omega,rfl,by omega,Nat.le_refl _,rfl,by rw[tnd_nil];rfl,by unfold bg;omega,tnd_ok (fun z hz=>by cases hz),rfl,trivial⟩
   ·rw[nil1]
    exact aJ.nil (hp g)
  ·rw[List.nil_append] at hk lt lz dT
   rw[Nat.zero_add] at lt lz dT
   refine aJ.aH aj 5 [0,1] (qp [] 0 c ty B m d ty2 (aM (tndV B)) g) ?_ (di1 [] 0 c ty B m d ty2 _) rfl fun g=> ?_
   ·rw[hYB,hYB,aP,dT,aO]
    exact⟨by omega,h1,roomLf _ (by omega),by omega,Nat.le_refl _,rfl,hm,by omega,hB,by omega,Nat.le_refl _,rfl,lt,by unfold bg;omega,hk,rfl,trivial⟩
   ·rw[nil1]
    exact aJ.nil (hp g)
 ·refine aJ.aH aj 2 [0,1,2] (cP A n c ty B m d ty2 g) ⟨by omega,h0,roomLf n (by omega),trivial⟩ (diP A n c ty B m d ty2 _ _ _) rfl fun g=> ?_
  rw[hYA]
  have hAB:((lvals A++lvals B).drop (0+0)).take ((n+m)*64)=lvals (A++B):=by rw[←lvals_app];exact dtl (by rw[List.length_append,hn,hm])
  have lAB:(lvals A++lvals B).length=(n+m)*64:=by rw[List.length_append,la,lb,Nat.add_mul]
  have lab:(A++B).length=n+m:=by rw[List.length_append,hn,hm]
  refine aJ.roomV 2 (n+m) (own:=true) (ty:=30) (s:=64) (vs:=lvals A) (lo:=n) rfl ?_ ?_
  ·refine aJ.aH aj 5 [0,1] (pg A n c ty B m d ty2 (lvals A) (aM (tndV (A++B))) g) ?_ (di1 A n c ty B m d ty2 _) rfl fun g=> ?_
   ·rw[hYB,hAB,aP,dT,aO]
    exact⟨by omega,by omega,Nat.le_refl _,oneLs B,by omega,Nat.le_refl _,rfl,lab,hb,hab,by omega,Nat.le_refl _,rfl,lt,by unfold bg;omega,hk,rfl,trivial⟩
   ·rw[nil1]
    exact aJ.nil (hp g)
  ·refine aJ.aH aj 5 [0,1] (pr A n c ty B m d ty2 (lvals A) (aM (tndV (A++B))) n g) ?_ (di1 A n c ty B m d ty2 _) rfl fun g=> ?_
   ·rw[hYB,hAB,aP,dT,aO]
    exact⟨by omega,by omega,Nat.le_refl _,roomLf _ hb,by omega,Nat.le_refl _,rfl,lab,hb,hab,by omega,Nat.le_refl _,rfl,lt,by unfold bg;omega,hk,rfl,trivial⟩
   ·rw[nil1]
    exact aJ.nil (hp g)
theorem run (H:Nd→Nd→B32) (hH:H=hV) (A:List Lf) (n c:Nat) (ty:TypeId) (B:List Lf) (m d:Nat) (ty2:TypeId) (hn:A.length=n) (hm:B.length=m) (hb:n+m≤4000000) (hc:n≤c) (hd:m≤d) (hA:AllL A) (hB:AllL B):aC Tryd.prog GT 2 body (aI fn [.o (.a (.sld 0 0 0 n c)),.o (.a (.sld 1 0 0 m d))]) [⟨false,ty,.prv (lvals A)⟩,⟨false,ty2,.prv (lvals B)⟩] (aF tys fn (fun r mm=>Qs (aM (tndV (A++B))) (stT H A B) r mm)):=by
 refine Runs.aW aj mixed 1 (s0 A n c ty B m d ty2) trivial (di0 A n c ty B m d ty2) rfl fun g=> ?_
 rw[suf_1]
 refine Runs.seq (Runs.seq (reg H hH A n c ty B m d ty2 hn hm hb hc hd hA hB (fun g=> ?_) g))
 show aC _ _ _ _ _ _ _
 have hap:=fun h=>(ap_left (A:=A) (B:=B) hA hB h).2
 cases hb2:aM (tndV (A++B)) with
 | false=>exact Runs.aA aj mixed (cE A n c ty B m d ty2 g) trivial (diN A ty B ty2 _) rfl fun g=>aF.ret (zn A ty B ty2 _ g) (.inl ⟨rfl,rfl⟩)
 | true=>
  have hap:=hap hb2
  have hYA:((lvals A).drop (0+0)).take (n*64)=lvals A:=dtl hn
  have la:(lvals A).length=n*64:=by rw[←hn];exact aU A
  have lb:(lvals B).length=m*64:=by rw[←hm];exact aU B
  refine Runs.aA aj mixed (cO A n c ty B m d ty2 g) trivial (di0 A n c ty B m d ty2) rfl fun g=> ?_
  show aC _ _ _ _ _ _ _
  rw[suf_2]
  refine Runs.seq (Runs.aH aj mixed [0,1,2] (mk A n c ty B m d ty2 g) ⟨by omega,rfl,roomL m (by omega),trivial⟩ (di3 A n c ty B m d ty2 _) rfl fun g=> ?_)
  refine Runs.seq (Runs.seq (Runs.aA aj mixed (a4 A n c ty B m d ty2 _ g) trivial (di4 A n c ty B m d ty2 _ _) rfl fun g=> ?_))
  refine Runs.block ?_
  have h00:repV (bF zB) m=aD (labs (B.take 0))++repV (bF zB) (m-0):=rfl
  rw[h00]
  refine Runs.bn (fun(i:Nat)=>M4 n c m d (i:Int)) (fun i=>m2 A ty B m ty2 (aD (labs (B.take i))++repV (bF zB) (m-i))) (fun i=>i≤m) (fun i=>m-i) ?_ 0 (Nat.zero_le _) g
  rintro i g hi
  rcases Nat.lt_or_ge i m with h | h
  ·have o64:=offs i 64
   have o32:=offs i 32
   have hb6:i*64+64≤m*64:=by have:=Nat.mul_le_mul_right 64 (show i+1≤m by omega);omega
   have hb5:i*32+32≤m*32:=by have:=Nat.mul_le_mul_right 32 (show i+1≤m by omega);omega
   have hl:(labs (B.take i)).length=i:=by rw[labs_len,List.length_take];omega
   refine Runs.aH aj mixed [0,1,2] (stp A n c ty B m d ty2 _ i ((i+1:Nat):Int) (B.getD i zl) g) ⟨decide_eq_true (by omega),by omega,by omega,by rw[o64,lb];omega,by rw[o64];exact ld_lf B (by omega),by omega,by omega,?_,by rw[IntKind.wrap_i64];omega,trivial⟩ (di4 A n c ty B m d ty2 _ _) rfl fun g=> ?_
   ·rw[o32,List.length_append,wvals_len,hl,repV_length,bS,Nat.sub_mul]
    omega
   ·refine⟨i+1,g,rfl,?_,by omega,by omega⟩
    rw[o32,put_rep bS (bS zB) _ hl h,labs_take (by omega)]
  ·obtain rfl:i=m:=by omega
   have ht:B.take i=B:=List.take_of_length_le (by omega)
   have e:aD (labs (B.take i))++repV (bF zB) (i-i)=aD (labs B):=by rw[Nat.sub_self,repV,List.append_nil,ht]
   rw[e]
   refine Runs.aA aj mixed (out A n c ty B i d ty2 _ _ g) ⟨decide_eq_false (by omega),trivial⟩ (di5 A n c ty B i ty2 _) rfl fun g=> ?_
   show aC _ _ _ _ _ _ _
   have lt:(tndV A).length=n:=by rw[tnd_len,hn]
   have dT:((ah (tndV A)).drop (0+0)).take (n*65)=ah (tndV A):=dtn lt
   have lz:(ah (tndV A)).length=n*65:=by rw[aV,lt]
   have ll:(labs B).length=i:=by rw[labs_len,hm]
   have lw:(aD (labs B)).length=i*32:=by rw[wvals_len,ll]
   have dW:((aD (labs B)).drop (0+0)).take (i*32)=aD (labs B):=dtb ll
   by_cases hR:stT H A B=[]
   ·refine Runs.aH aj mixed [0,1] (fZ H hH A n c ty B i ty2 _ g) ?_ (diN A ty B ty2 _) rfl fun g=>aF.ret (zn A ty B ty2 _ g) (.inr (.inl ⟨rfl,hR,rfl⟩))
    rw[hYA,aP,dT,dW,aO,bvDec_vals]
    exact⟨by omega,hc,rfl,hn,by omega,hA,by omega,Nat.le_refl _,by omega,Nat.le_refl _,rfl,lt,by omega,tnd_ok hA,hap,rfl,ll,by omega,labs_ok hB,hR,trivial⟩
   ·have q:=fP H hH A n c ty B i ty2 (aD (labs B)) g
    rw[hYA,aP,dT,dW,aO,bvDec_vals] at q
    refine Runs.aH aj mixed [0,1,4] q ?_ (diR A ty B ty2 _ _) rfl fun g=>aF.ret (zr A ty B ty2 _ _ g) (.inr (.inr ⟨rfl,hR,2,rfl,rfl⟩))
    exact⟨by omega,hc,rfl,hn,by omega,hA,by omega,Nat.le_refl _,by omega,Nat.le_refl _,rfl,lt,by omega,tnd_ok hA,hap,rfl,ll,by omega,labs_ok hB,hR,trivial⟩
noncomputable def specE (H:Nd→Nd→B32):List PArg→Option (SV × LEff × Cst)
 | [.winv _ vs n ty,.winv _ ws m ty2]=>some (.t [.a (.v (.slice none 0 0)),.a (int1 .i64 1)],.none,[vs=lvals (ak vs),(ak vs).length=n,ws=lvals (ak ws),(ak ws).length=m,n+m≤4000000,AllL (ak vs),AllL (ak ws),aM (tndV (ak vs++ak ws))=false])
 | _=>none
noncomputable def conE (H:Nd→Nd→B32) (hH:H=hV):Con Tryd.prog GT:=Con.parts aj 44 fn Tryd.func44 (by kernel_rfl) (c:=body) (by kernel_rfl) [.winv 64,.winv 64] (specE H)
 (fun ps r e p h hp=>by
  unfold specE at h
  split at h<;>cases h
  exact⟨rfl,fun b hb=>by simp only[aR,PArg.blk,List.append_nil,List.nil_append,List.cons_append,List.mem_cons,List.not_mem_nil,or_false] at hb;rcases hb with rfl | rfl<;>rfl⟩)
 (fun ps r e p cap h hp hi=>by
  unfold specE at h
  split at h<;>cases h
  rename_i s1 vs n ty s2 ws m ty2
  obtain⟨p1,p2,p3,p4,p5,p6,p7,p8,_⟩:=hp
  obtain⟨⟨_,hc1⟩,⟨_,hc2⟩,_⟩:=hi
  have q:=run H hH (ak vs) n (cap 0) ty (ak ws) m (cap 1) ty2 p2 p4 p5 hc1 hc2 p6 p7
  rw[←p1,←p3] at q
  refine Runs.mono q fun e t m=>bJ fun r m h=> ?_
  rcases h with⟨_,h⟩ | ⟨h',_⟩ | ⟨h',_⟩
  ·exact h
  ·rw[p8] at h';cases h'
  ·rw[p8] at h';cases h')
noncomputable def specZ (H:Nd→Nd→B32):List PArg→Option (SV × LEff × Cst)
 | [.winv _ vs n ty,.winv _ ws m ty2]=>some (.t [.a (.v (.slice none 0 0)),.a (int1 .i64 0)],.none,[vs=lvals (ak vs),(ak vs).length=n,ws=lvals (ak ws),(ak ws).length=m,n+m≤4000000,AllL (ak vs),AllL (ak ws),aM (tndV (ak vs++ak ws))=true,stT H (ak vs) (ak ws)=[]])
 | _=>none
noncomputable def conZ (H:Nd→Nd→B32) (hH:H=hV):Con Tryd.prog GT:=Con.parts aj 44 fn Tryd.func44 (by kernel_rfl) (c:=body) (by kernel_rfl) [.winv 64,.winv 64] (specZ H)
 (fun ps r e p h hp=>by
  unfold specZ at h
  split at h<;>cases h
  exact⟨rfl,fun b hb=>by simp only[aR,PArg.blk,List.append_nil,List.nil_append,List.cons_append,List.mem_cons,List.not_mem_nil,or_false] at hb;rcases hb with rfl | rfl<;>rfl⟩)
 (fun ps r e p cap h hp hi=>by
  unfold specZ at h
  split at h<;>cases h
  rename_i s1 vs n ty s2 ws m ty2
  obtain⟨p1,p2,p3,p4,p5,p6,p7,p8,p9,_⟩:=hp
  obtain⟨⟨_,hc1⟩,⟨_,hc2⟩,_⟩:=hi
  have q:=run H hH (ak vs) n (cap 0) ty (ak ws) m (cap 1) ty2 p2 p4 p5 hc1 hc2 p6 p7
  rw[←p1,←p3] at q
  refine Runs.mono q fun e t m=>bJ fun r m h=> ?_
  rcases h with⟨h',_⟩ | ⟨_,_,h⟩ | ⟨_,h',_⟩
  ·rw[p8] at h';cases h'
  ·exact h
  ·exact absurd p9 h')
noncomputable def specP (H:Nd→Nd→B32):List PArg→Option (SV × LEff × Cst)
 | [.winv _ vs n ty,.winv _ ws m ty2]=>some (.t [.a (.slg 0 (stT H (ak vs) (ak ws)).length),.a (int1 .i64 0)],.new 33 (.grv 65 (ah (stT H (ak vs) (ak ws))) (stT H (ak vs) (ak ws)).length none),[vs=lvals (ak vs),(ak vs).length=n,ws=lvals (ak ws),(ak ws).length=m,n+m≤4000000,AllL (ak vs),AllL (ak ws),aM (tndV (ak vs++ak ws))=true,stT H (ak vs) (ak ws)≠[]])
 | _=>none
noncomputable def conP (H:Nd→Nd→B32) (hH:H=hV):Con Tryd.prog GT:=Con.parts aj 44 fn Tryd.func44 (by kernel_rfl) (c:=body) (by kernel_rfl) [.winv 64,.winv 64] (specP H)
 (fun ps r e p h hp=>by
  unfold specP at h
  split at h<;>cases h
  exact⟨rfl,fun b hb=>by simp only[aR,PArg.blk,List.append_nil,List.nil_append,List.cons_append,List.mem_cons,List.not_mem_nil,or_false] at hb;rcases hb with rfl | rfl<;>rfl⟩)
 (fun ps r e p cap h hp hi=>by
  unfold specP at h
  split at h<;>cases h
  rename_i s1 vs n ty s2 ws m ty2
  obtain⟨p1,p2,p3,p4,p5,p6,p7,p8,p9,_⟩:=hp
  obtain⟨⟨_,hc1⟩,⟨_,hc2⟩,_⟩:=hi
  have q:=run H hH (ak vs) n (cap 0) ty (ak ws) m (cap 1) ty2 p2 p4 p5 hc1 hc2 p6 p7
  rw[←p1,←p3] at q
  refine Runs.mono q fun e t m=>bJ fun r m h=> ?_
  rcases h with⟨h',_⟩ | ⟨_,h',_⟩ | ⟨_,_,h⟩
  ·rw[p8] at h';cases h'
  ·exact absurd h' p9
  ·exact h)
end gst
end Go.Proofs.YtdccehmekkcheaaDoor
