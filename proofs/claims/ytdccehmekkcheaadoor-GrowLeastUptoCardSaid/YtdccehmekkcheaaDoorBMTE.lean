/- Package tree: Around: the recursion. -/
import Derived.Test.YtdccehmekkcheaaDoorBMTD
import Derived.Test.YtdccehmekkcheaaDoorBMTH
namespace Go.Proofs.YtdccehmekkcheaaDoor
open Go Go.Eng Go.RowKit
set_option linter.unusedVariables false
set_option linter.unusedSimpArgs false
set_option maxRecDepth 100000
namespace tar
theorem ends_r (H:Nd→Nd→B32) (hH:H=hV) (l:List Nd) (n c:Nat) (ty:TypeId) (ks:List B32) (m mc:Nat) (ty2:TypeId) (own:Bool) (us:List Value) (u:Nat) (g:Nat→SV) (R:List Nd) (hR:R≠[]) (h1:us=ah R) (h2:u=R.length):aF tys fn (fun r mm=>Qa R r mm) .ret (fill g 0 (MR u)) (mr l ty ks ty2 us u):=by
 subst h1 h2
 exact aF.ret (zr l ty ks ty2 _ _ _ g) (.inr ⟨hR,2,rfl,rfl⟩)
theorem ends_n (H:Nd→Nd→B32) (hH:H=hV) (l:List Nd) (n c:Nat) (ty:TypeId) (ks:List B32) (m mc:Nat) (ty2:TypeId) (own:Bool) (g:Nat→SV):aF tys fn (fun r mm=>Qa [] r mm) .ret (fill g 0 (MN)) (m0 l ty ks ty2):=
 aF.ret (zn l ty ks ty2 g) (.inl ⟨rfl,rfl⟩)
theorem halvesQ (H:Nd→Nd→B32) (hH:H=hV) (l:List Nd) (n c:Nat) (ty:TypeId) (ks:List B32) (m mc:Nat) (ty2:TypeId) (own:Bool) (N:Nat) (ih:IH H N) (hN:N≤4000000) (hn:l.length=n) (hlt:n<N+1) (hc:n≤c) (hok:aT l) (hap:aL l=true) (h2:2≤n) (L:List B32) (h1:L≠[]) (hLb:L.length≤4000000) (hLo:AllB L)
  (hr:aroV H own l ks=aroV H own (l.take (splK l (topC l))) L++aroV H own (l.drop (splK l (topC l))) L) (g:Nat→SV):
  aB Tryd.prog GT 2 (.seq R16 (.seq (.region i17 (opsOf R17) false) Z)) (fill g 0 (M3 n c own L.length)) (m4 l ty ks ty2 (aR L) L.length none) (aF tys fn (fun r mm=>Qa (aroV H own l ks) r mm)):=by
 have hA:=(ap_iff hok).1 hap
 have hs:=halves hA (by omega)
 have k0:=hs.k0
 have kl:=hs.kl
 have c256:=hs.c256
 have hY:=dtn hn
 have hl:(ah l).length=n*65:=by rw[←hn];exact bn l
 have hHk:∀a b,BOk (H a b):=fun a b=>by rw[hH];exact hV_ok a b
 obtain⟨⟨q1,q2,q3,q4,q5⟩,r1',r2',r3',r4',r5'⟩:=parts_ok hn hok hap (show splK l (topC l)≤n by omega)
 have e1:=dtA l (splK l (topC l))
 have e2:=dtB hn (splK l (topC l))
 have hk1:splK l (topC l)*65≤n*65:=Nat.mul_le_mul_right _ (by omega)
 have hk2:(n-splK l (topC l))*65=n*65-splK l (topC l)*65:=Nat.sub_mul _ _ _
 have hW:=dtb (rfl:L.length=L.length)
 have hwl:(aR L).length=L.length*32:=wvals_len L
 have w2:aN (((aR L).drop (0+0)).take (L.length*32))=L:=by rw[hW,bvDec_vals]
 have la:=aroV_len H hHk own (ap_take hA (splK l (topC l))) L
 have lb:=aroV_len H hHk own (ap_drop hA (splK l (topC l))) L
 rw[q3] at la
 rw[r3'] at lb
 refine Runs.seq (Runs.av aj mixed (sp H hH l n c ty ks ty2 own (aR L) L.length none L.length (splK l (topC l)) ((splK l (topC l))*65) (topC l:Nat) g) ⟨by omega,hc,by rw[hY,aU],by rw[hY,aU];exact hn,by unfold bg;omega,h2,by rw[hY,aU];exact hok,by rw[hY,aU];exact hap,by rw[hY,aU,Nat.zero_add,Nat.zero_add],trivial⟩ (i4 l n c ty ks ty2 own _ _ _ _ _ _) rfl fun g=> ?_)
 rw[hr]
 have x1:=fun(h:aroV H own (l.take (splK l (topC l))) L≠[])=>c1P H l n c ty ks ty2 own N ih (aR L) L.length L.length (splK l (topC l)) ((splK l (topC l))*65)
 have x2:=fun(h:aroV H own (l.take (splK l (topC l))) L=[])=>c1Z H l n c ty ks ty2 own N ih (aR L) L.length L.length (splK l (topC l)) ((splK l (topC l))*65)
 have y1:=cPg H l n c ty ks ty2 own N ih (aR L) L.length L.length (splK l (topC l)) ((splK l (topC l))*65)
 have y2:=cPr H l n c ty ks ty2 own N ih (aR L) L.length L.length (splK l (topC l)) ((splK l (topC l))*65)
 have y3:=cZP H l n c ty ks ty2 own N ih (aR L) L.length L.length (splK l (topC l)) ((splK l (topC l))*65)
 have y4:=cPZ H l n c ty ks ty2 own N ih (aR L) L.length L.length (splK l (topC l)) ((splK l (topC l))*65)
 have y5:=cZZ H l n c ty ks ty2 own N ih (aR L) L.length L.length (splK l (topC l)) ((splK l (topC l))*65)
 rw[w2,q2] at x1 x2
 rw[w2,r2'] at y1 y2 y3 y4 y5
 generalize aroV H own (l.take (splK l (topC l))) L=A at*
 generalize aroV H own (l.drop (splK l (topC l))) L=B at*
 have ya:((ah B).drop (0+0)).take (B.length*65)=ah B:=dtn rfl
 have lB:(ah B).length=B.length*65:=bn B
 have lA:(ah A).length=A.length*65:=bn A
 refine Runs.seq (Runs.region ?_)
 by_cases ha:A=[]
 ·refine aO.av aj 4 (x2 ha g) ⟨by omega,by omega,by omega,Nat.le_refl _,e1,q3,by omega,q4,q5,hW,rfl,hLb,hLo,ha,trivial⟩ (iVZ l n c ty ks ty2 own _ _ _ _ _ _) rfl fun g=> ?_
  rw[ha,List.nil_append]
  by_cases hb:B=[]
  ·refine aO.aK aj 6 [0,1] (y5 g) ⟨by omega,by omega,by omega,Nat.le_refl _,e2,r3',by omega,r4',r5',hW,rfl,hLb,hLo,hb,rfl,trivial⟩ (iN l ty ks ty2) rfl fun g=> ?_
   rw[nil1,hb]
   exact aO.nil (Runs.av aj mixed (en H hH l ty ks ty2 g) trivial (iN l ty ks ty2) rfl fun g=>ends_n H hH l n c ty ks m mc ty2 own g)
  ·refine aO.aK aj 6 [0,1,4] (y3 g) ⟨by omega,by omega,by omega,Nat.le_refl _,e2,r3',by omega,r4',r5',hW,rfl,hLb,hLo,hb,by omega,List.length_pos_iff.2 hb,roomN _ (by omega),trivial⟩ (iR l ty ks ty2 _ _ _) rfl fun g=> ?_
   rw[nil1]
   exact aO.nil (Runs.av aj mixed (er H hH l ty ks ty2 _ _ _ g) trivial (iR l ty ks ty2 _ _ _) rfl fun g=>ends_r H hH l n c ty ks m mc ty2 own _ _ g B hb ya rfl)
 ·refine aO.av aj 4 (x1 ha g) ⟨by omega,by omega,by omega,Nat.le_refl _,e1,q3,by omega,q4,q5,hW,rfl,hLb,hLo,ha,trivial⟩ (iVP l n c ty ks ty2 own _ _ _ _ _ _ _ _ _ _) rfl fun g=> ?_
  by_cases hb:B=[]
  ·refine aO.aK aj 6 [0,1,3] (y4 _ _ g) ⟨by omega,by omega,by omega,Nat.le_refl _,e2,r3',by omega,r4',r5',hW,rfl,hLb,hLo,hb,by omega,Nat.le_refl _,fun v hv=>(by cases hv),trivial⟩ (iR l ty ks ty2 _ _ _) rfl fun g=> ?_
   rw[nil1,hb,List.append_nil,List.append_nil]
   exact aO.nil (Runs.av aj mixed (er H hH l ty ks ty2 _ _ _ g) trivial (iR l ty ks ty2 _ _ _) rfl fun g=>ends_r H hH l n c ty ks m mc ty2 own _ _ g A ha rfl rfl)
  ·have hne:A++B≠[]:=fun h=>ha (List.append_eq_nil_iff.1 h).1
   refine aO.roomV 3 (A.length+B.length) (own:=true) (ty:=33) (s:=65) (vs:=ah A) (lo:=A.length) rfl ?_ ?_
   ·refine aO.aK aj 6 [0,1,3] (y1 (ah A) A.length g) ⟨by omega,by omega,by omega,Nat.le_refl _,e2,r3',by omega,r4',r5',hW,rfl,hLb,hLo,hb,by omega,by omega,Nat.le_refl _,by rw[ya];exact oneVs B,trivial⟩ (iR l ty ks ty2 _ _ _) rfl fun g=> ?_
    rw[nil1]
    exact aO.nil (Runs.av aj mixed (er H hH l ty ks ty2 _ _ _ g) trivial (iR l ty ks ty2 _ _ _) rfl fun g=>ends_r H hH l n c ty ks m mc ty2 own _ _ g (A++B) hne (by rw[ya,nvals_app]) (by rw[List.length_append]))
   ·refine aO.aK aj 6 [0,1,5] (y2 (ah A) A.length A.length g) ⟨by omega,by omega,by omega,Nat.le_refl _,e2,r3',by omega,r4',r5',hW,rfl,hLb,hLo,hb,by omega,by omega,Nat.le_refl _,roomN _ (by omega),trivial⟩ (iR l ty ks ty2 _ _ _) rfl fun g=> ?_
    rw[nil1]
    exact aO.nil (Runs.av aj mixed (er H hH l ty ks ty2 _ _ _ g) trivial (iR l ty ks ty2 _ _ _) rfl fun g=>ends_r H hH l n c ty ks m mc ty2 own _ _ g (A++B) hne (by rw[ya,nvals_app]) (by rw[List.length_append]))
def MA (H:Nd→Nd→B32) (hH:H=hV) (l:List Nd) (n c:Nat) (ty:TypeId) (ks:List B32) (m mc:Nat) (ty2:TypeId) (own:Bool) (j:Int):List B32→List (Option SV)
 | []=>MZ n c m mc own j
 | a::r=>MP n c m mc own j (r.length+1)
def mA (l:List Nd) (ty:TypeId) (ks:List B32) (ty2:TypeId) (x:Nd):List B32→List Blk
 | []=>m2 l ty ks ty2 x
 | a::r=>m3 l ty ks ty2 x (aR (a::r)) (r.length+1) none
theorem MA_ne (H:Nd→Nd→B32) (hH:H=hV) (l:List Nd) (n c:Nat) (ty:TypeId) (ks:List B32) (m mc:Nat) (ty2:TypeId) (own:Bool) (j:Int) {L:List B32} (h:L≠[]):MA H hH l n c ty ks m mc ty2 own j L=MP n c m mc own j L.length:=by
 cases L with
 | nil=>exact absurd rfl h
 | cons a r=>rfl
theorem mA_ne (l:List Nd) (ty:TypeId) (ks:List B32) (ty2:TypeId) (x:Nd) {L:List B32} (h:L≠[]):mA l ty ks ty2 x L=m3 l ty ks ty2 x (aR L) L.length none:=by
 cases L with
 | nil=>exact absurd rfl h
 | cons a r=>rfl
theorem loop (H:Nd→Nd→B32) (hH:H=hV) (l:List Nd) (n c:Nat) (ty:TypeId) (ks:List B32) (m mc:Nat) (ty2:TypeId) (own:Bool) (hm:ks.length=m) (hmb:m≤4000000) (hmc:m≤mc) (hkb:AllB ks) (x:Nd) (hx:BOk x.pre) {Post:Ex→List SV→List Blk→Prop}
  (hz:ks.filter (holdsV x)=[]→∀g,Post (.exit 0) (fill g 0 (M0 n c m mc own)) (m2 l ty ks ty2 x))
  (hp:ks.filter (holdsV x)≠[]→∀g,Post (.exit 0) (fill g 0 (MQ n c m mc own (ks.filter (holdsV x)).length)) (m3 l ty ks ty2 x (aR (ks.filter (holdsV x))) (ks.filter (holdsV x)).length none)) (g:Nat→SV):
  aB Tryd.prog GT 2 (.loop L) (fill g 0 (MZ n c m mc own 0)) (m2 l ty ks ty2 x) Post:=by
 have hwl:(aR ks).length=m*32:=by rw[←hm];exact wvals_len ks
 refine Runs.loopX (fun(i:Nat)=>MA H hH l n c ty ks m mc ty2 own (i:Int) ((ks.take i).filter (holdsV x))) (fun i=>mA l ty ks ty2 x ((ks.take i).filter (holdsV x))) (fun i=>i≤m) (fun i=>m-i) ?_ 0 (Nat.zero_le _) g
 rintro i g hi
 have hb0:((ks.take i).filter (holdsV x)).length≤i:=Nat.le_trans filt_bound (by rw[List.length_take];omega)
 rcases Nat.lt_or_ge i m with h | h
 ·have o32:=offs i 32
  have hb5:i*32+32≤m*32:=by have:=Nat.mul_le_mul_right 32 (show i+1≤m by omega);omega
  have hsx:=filt_succ (show i<ks.length by omega) (holdsV x)
  have hy:=hkb.at (show i<ks.length by omega)
  have ld:SV.o (.g (aI (aR ks) (0+offI 0 (i:Int) 32) 32))=cB32.enc (ks.getD i zB):=by rw[o32];exact ld_lab ks (by omega)
  have hw:IntKind.i64.wrap ((i:Int)+1)=((i+1:Nat):Int):=by rw[IntKind.wrap_i64];omega
  generalize hq:(ks.take i).filter (holdsV x)=Q at*
  have lQ:=wvals_len Q
  cases hh:holdsV x (ks.getD i zB) with
  | false=>
   rw[hh,cond_false] at hsx
   by_cases hQ:Q=[]
   ·subst hQ
    refine Runs.aK aj mixed [0,1,2] (zno H hH l n c ty ks m mc ty2 own x i ((i+1:Nat):Int) (ks.getD i zB) g) ⟨decide_eq_true (by omega),by omega,by omega,by omega,ld,hx,hy,by rw[hh],hw,trivial⟩ (iZ l n c ty ks m mc ty2 own _ _) rfl fun g=> ?_
    exact⟨i+1,g,by rw[hsx];rfl,by rw[hsx];rfl,by omega,by omega⟩
   ·rw[MA_ne _ _ _ _ _ _ _ _ _ _ _ _ hQ,mA_ne _ _ _ _ _ hQ]
    refine Runs.aK aj mixed [0,1,2,3] (pno H hH l n c ty ks m mc ty2 own x i ((i+1:Nat):Int) (ks.getD i zB) (aR Q) Q.length none Q.length g) ⟨decide_eq_true (by omega),by omega,by omega,by omega,ld,hx,hy,by rw[hh],hw,trivial⟩ (iP l n c ty ks m mc ty2 own _ _ _ _ _ _) rfl fun g=> ?_
    exact⟨i+1,g,by rw[hsx,MA_ne _ _ _ _ _ _ _ _ _ _ _ _ hQ],by rw[hsx,mA_ne _ _ _ _ _ hQ],by omega,by omega⟩
  | true=>
   rw[hh,cond_true] at hsx
   by_cases hQ:Q=[]
   ·subst hQ
    refine Runs.aK aj mixed [0,1,2,5] (zyes H hH l n c ty ks m mc ty2 own x i ((i+1:Nat):Int) (ks.getD i zB) g) ⟨decide_eq_true (by omega),by omega,by omega,by omega,ld,hx,hy,by rw[hh],rfl,by rw[bvals_len];omega,by omega,roomL 1 (by omega),hw,trivial⟩ (iP l n c ty ks m mc ty2 own _ _ _ _ _ _) rfl fun g=> ?_
    exact⟨i+1,g,by rw[hsx];rfl,by rw[hsx];show m3 _ _ _ _ _ _ _ _=m3 _ _ _ _ _ (aR [_]) _ _;rw[show aR [ks.getD i zB]=bvals (ks.getD i zB) from List.append_nil _];rfl,by omega,by omega⟩
   ·have hne:Q++[ks.getD i zB]≠[]:=by simp
    have e:aR (Q++[ks.getD i zB])=aR Q++bvals (ks.getD i zB):=by rw[wvals_app,show aR [ks.getD i zB]=bvals (ks.getD i zB) from List.append_nil _]
    have el:(Q++[ks.getD i zB]).length=Q.length+1:=by simp
    rw[MA_ne _ _ _ _ _ _ _ _ _ _ _ _ hQ,mA_ne _ _ _ _ _ hQ]
    refine Runs.roomV 3 (Q.length+1) (own:=true) (ty:=24) (s:=32) (vs:=aR Q) (lo:=Q.length) rfl ?_ ?_
    ·refine Runs.aK aj mixed [0,1,2,3] (pyg H hH l n c ty ks m mc ty2 own x i ((i+1:Nat):Int) (ks.getD i zB) (aR Q) Q.length g) ⟨decide_eq_true (by omega),by omega,by omega,by omega,ld,hx,hy,by rw[hh],rfl,by rw[bvals_len];omega,by omega,Nat.le_refl _,oneB _,hw,trivial⟩ (iP l n c ty ks m mc ty2 own _ _ _ _ _ _) rfl fun g=> ?_
     exact⟨i+1,g,by rw[hsx,MA_ne _ _ _ _ _ _ _ _ _ _ _ _ hne,el],by rw[hsx,mA_ne _ _ _ _ _ hne,el,e],by omega,by omega⟩
    ·refine Runs.aK aj mixed [0,1,2,6] (pyr H hH l n c ty ks m mc ty2 own x i ((i+1:Nat):Int) (ks.getD i zB) (aR Q) Q.length Q.length g) ⟨decide_eq_true (by omega),by omega,by omega,by omega,ld,hx,hy,by rw[hh],rfl,by rw[bvals_len];omega,by omega,Nat.le_refl _,roomL _ (by omega),hw,trivial⟩ (iP l n c ty ks m mc ty2 own _ _ _ _ _ _) rfl fun g=> ?_
     exact⟨i+1,g,by rw[hsx,MA_ne _ _ _ _ _ _ _ _ _ _ _ _ hne,el],by rw[hsx,mA_ne _ _ _ _ _ hne,el,e],by omega,by omega⟩
 ·obtain rfl:i=m:=by omega
  have ht:ks.take i=ks:=List.take_of_length_le (by omega)
  rw[ht]
  by_cases hQ:ks.filter (holdsV x)=[]
  ·rw[hQ]
   exact Runs.av aj mixed (outz H hH l n c ty ks i mc ty2 own x _ g) ⟨decide_eq_false (by omega),trivial⟩ (i0 l n c ty ks i mc ty2 own _) rfl fun g=>hz hQ g
  ·rw[MA_ne _ _ _ _ _ _ _ _ _ _ _ _ hQ,mA_ne _ _ _ _ _ hQ]
   exact Runs.av aj mixed (outp H hH l n c ty ks i mc ty2 own x _ _ _ _ _ g) ⟨decide_eq_false (by omega),trivial⟩ (iQ l n c ty ks i mc ty2 own _ _ _ _ _) rfl fun g=>hp hQ g
theorem all (H:Nd→Nd→B32) (hH:H=hV):∀N,N≤4000001→IH H N
 | 0,_=>fun l n c ty ks m mc ty2 own hn h=>absurd h (by omega)
 | N+1,hN=>by
  have ih:=all H hH N (by omega)
  intro l n c ty ks m mc ty2 own hn hlt hc hok hap hm hmb hmc hkb
  have hA:=(ap_iff hok).1 hap
  have hl:(ah l).length=n*65:=by rw[←hn];exact bn l
  have hHk:∀a b,BOk (H a b):=fun a b=>by rw[hH];exact hV_ok a b
  obtain⟨y1,y2⟩:=apN_two n hn
  rcases Nat.eq_zero_or_pos n with h0 | h0
  ·have e0:l=[]:=List.eq_nil_of_length_eq_zero (by omega)
   refine Runs.av aj mixed (z0 H hH l n c ty ks m mc ty2 own) ⟨by rw[beq_iff_eq];omega,trivial⟩ (iN l ty ks ty2) rfl fun g=> ?_
   rw[show aroV H own l ks=[] by rw[e0,aroV_nil]]
   exact ends_n H hH l n c ty ks m mc ty2 own g
  ·have hne:l≠[]:=by rw[←List.length_pos_iff];omega
   have okx:=(join_good H hHk hA hne).2.1
   refine Runs.bq aj mixed 4 (s0 H hH l n c ty ks m mc ty2 own (aP H l)) ⟨by rw[←Bool.not_eq_true,beq_iff_eq];omega,by omega,hc,y1,by rw[y2];exact hn,by unfold bg;omega,h0,by rw[y2];exact hok,by rw[y2];exact hap,by rw[y2],trivial⟩ (i0 l n c ty ks m mc ty2 own _) rfl fun g=> ?_
   rw[suf_eq]
   refine Runs.seq (Runs.seq (Runs.av aj mixed (a1 H hH l n c ty ks m mc ty2 own _ g) trivial (iZ l n c ty ks m mc ty2 own _ _) rfl fun g=> ?_))
   refine Runs.block (loop H hH l n c ty ks m mc ty2 own hm hmb hmc hkb (aP H l) okx.1 (fun hf g=> ?_) (fun hf g=> ?_) g)
   ·show aB _ _ _ _ _ _ _
    rw[aroV_one H own ks (by omega) (.inl hf)]
    exact Runs.seq (Runs.aK aj mixed [0,1,3] (r1 H hH l n c ty ks m mc ty2 own (aP H l) g) ⟨rfl,trivial⟩ (iR l ty ks ty2 _ _ _) rfl fun g=>ends_r H hH l n c ty ks m mc ty2 own _ _ g [aP H l] (by simp) (nvals_one _).symm rfl)
   ·show aB _ _ _ _ _ _ _
    have hp:=List.length_pos_iff.2 hf
    have hfb:(ks.filter (holdsV (aP H l))).length≤ks.length:=filt_bound
    have q0:(((ks.filter (holdsV (aP H l))).length:Int)==0)=false:=by rw[←Bool.not_eq_true,beq_iff_eq];omega
    by_cases h1:n=1
    ·have q1:((n:Int)==1)=true:=by rw[beq_iff_eq];omega
     cases own with
     | true=>
      rw[aroV_one H true ks (by omega) (.inr ⟨by omega,rfl⟩)]
      exact Runs.seq (Runs.aK aj mixed [0,1,4] (r2 H hH l n c ty ks m mc ty2 (aP H l) _ _ _ _ g) ⟨q0,q1,rfl,trivial⟩ (iR l ty ks ty2 _ _ _) rfl fun g=>ends_r H hH l n c ty ks m mc ty2 true _ _ g [aP H l] (by simp) (nvals_one _).symm rfl)
     | false=>
      rw[aroV_gone H ks (by omega) hf]
      exact Runs.seq (Runs.aK aj mixed [0,1] (r3 H hH l n c ty ks m mc ty2 (aP H l) _ _ _ _ g) ⟨q0,q1,q1,trivial⟩ (iN l ty ks ty2) rfl fun g=>ends_n H hH l n c ty ks m mc ty2 false g)
    ·have q1:((n:Int)==1)=false:=by rw[←Bool.not_eq_true,beq_iff_eq];omega
     refine Runs.seq (Runs.aK aj mixed [0,1,3] (r4 H hH l n c ty ks m mc ty2 own (aP H l) _ _ _ _ g) ⟨q0,q1,q1,trivial⟩ (i3 l n c ty ks ty2 own _ _ _ _) rfl fun g=> ?_)
     exact halvesQ H hH l n c ty ks m mc ty2 own N ih (by omega) hn hlt hc hok hap (by omega) _ hf (by omega) (hkb.filter _) (aroV_two H hA (by omega) own ks hf) g
theorem ih (H:Nd→Nd→B32) (hH:H=hV):IH H 4000001:=all H hH 4000001 (Nat.le_refl _)
noncomputable def cP (H:Nd→Nd→B32) (hH:H=hV):Con Tryd.prog GT:=conP H 4000001 (ih H hH)
noncomputable def cZ (H:Nd→Nd→B32) (hH:H=hV):Con Tryd.prog GT:=conZ H 4000001 (ih H hH)
end tar
end Go.Proofs.YtdccehmekkcheaaDoor
