/- Package tree: Around: the recursion. -/
import Derived.Test.YtdccehmekkcheaaDoorCMTD
import Derived.Test.YtdccehmekkcheaaDoorCMTH
set_option linter.unusedSimpArgs false
set_option linter.unusedVariables false
namespace Go.Proofs.YtdccehmekkcheaaDoor
open Go Go.Eng Go.RowKit
set_option maxRecDepth 100000
namespace tar
theorem kT (H:Nd→Nd→B32) (hH:H=hV) (l:List Nd) (n c:Nat) (ty:TypeId) (ks:List B32) (m mc:Nat) (ty2:TypeId) (own:Bool) (us:List Value) (u:Nat) (g:Nat→SV) (R:List Nd) (hR:R≠[]) (h1:us=ah R) (h2:u=R.length):aH tys fn (fun r mm=>Qa R r mm) .ret (fill g 0 (MR u)) (mr l ty ks ty2 us u):=by
 subst h1 h2
 exact aH.ret (zr l ty ks ty2 _ _ _ g) (.inr ⟨hR,2,rfl,rfl⟩)
theorem ends_n (H:Nd→Nd→B32) (hH:H=hV) (l:List Nd) (n c:Nat) (ty:TypeId) (ks:List B32) (m mc:Nat) (ty2:TypeId) (own:Bool) (g:Nat→SV):aH tys fn (fun r mm=>Qa [] r mm) .ret (fill g 0 (MN)) (m0 l ty ks ty2):=
 aH.ret (zn l ty ks ty2 g) (.inl ⟨rfl,rfl⟩)
theorem halvesQ (H:Nd→Nd→B32) (hH:H=hV) (l:List Nd) (n c:Nat) (ty:TypeId) (ks:List B32) (m mc:Nat) (ty2:TypeId) (own:Bool) (N:Nat) (ih:IH H N) (hN:N≤4000000) (hn:l.length=n) (hlt:n<N+1) (hc:n≤c) (hok:bg l) (hap:bC l=true) (h2:2≤n) (L:List B32) (h1:L≠[]) (hLb:L.length≤4000000) (hLo:gq L)
  (hr:cK H own l ks=cK H own (l.take (aR l (aM l))) L++cK H own (l.drop (aR l (aM l))) L) (g:Nat→SV):
  aF Tryd.prog GT 2 (.seq R16 (.seq (.region i17 (opsOf R17) false) Z)) (fill g 0 (M3 n c own L.length)) (m4 l ty ks ty2 (aJ L) L.length none) (aH tys fn (fun r mm=>Qa (cK H own l ks) r mm)):=by
 have hA:=(gF hok).1 hap
 have hs:=halves hA (by omega)
 have k0:=hs.k0
 have kl:=hs.kl
 have c256:=hs.c256
 have hY:=dtn hn
 have hl:(ah l).length=n*65:=by rw[←hn];exact bH l
 have hHk:∀a b,BOk (H a b):=fun a b=>by rw[hH];exact gW a b
 obtain⟨⟨q1,q2,q3,q4,q5⟩,r1',r2',r3',r4',r5'⟩:=ug hn hok hap (show aR l (aM l)≤n by omega)
 have e1:=dtA l (aR l (aM l))
 have e2:=dtB hn (aR l (aM l))
 have hk1:aR l (aM l)*65≤n*65:=Nat.mul_le_mul_right _ (by omega)
 have hk2:(n-aR l (aM l))*65=n*65-aR l (aM l)*65:=Nat.sub_mul _ _ _
 have hW:=dtb (rfl:L.length=L.length)
 have hwl:(aJ L).length=L.length*32:=l7 L
 have w2:aO (((aJ L).drop (0+0)).take (L.length*32))=L:=by rw[hW,nD]
 have la:=aroV_len H hHk own (jh hA (aR l (aM l))) L
 have lb:=aroV_len H hHk own (ji hA (aR l (aM l))) L
 rw[q3] at la
 rw[r3'] at lb
 refine Runs.seq (Runs.au aj mixed (sp H hH l n c ty ks ty2 own (aJ L) L.length none L.length (aR l (aM l)) ((aR l (aM l))*65) (aM l:Nat) g) ⟨by omega,hc,by rw[hY,bE],by rw[hY,bE];exact hn,by unfold bK;omega,h2,by rw[hY,bE];exact hok,by rw[hY,bE];exact hap,by rw[hY,bE,Nat.zero_add,Nat.zero_add],trivial⟩ (i4 l n c ty ks ty2 own _ _ _ _ _ _) rfl fun g=> ?_)
 rw[hr]
 have x1:=fun(h:cK H own (l.take (aR l (aM l))) L≠[])=>c1P H l n c ty ks ty2 own N ih (aJ L) L.length L.length (aR l (aM l)) ((aR l (aM l))*65)
 have x2:=fun(h:cK H own (l.take (aR l (aM l))) L=[])=>c1Z H l n c ty ks ty2 own N ih (aJ L) L.length L.length (aR l (aM l)) ((aR l (aM l))*65)
 have y1:=cPg H l n c ty ks ty2 own N ih (aJ L) L.length L.length (aR l (aM l)) ((aR l (aM l))*65)
 have y2:=cPr H l n c ty ks ty2 own N ih (aJ L) L.length L.length (aR l (aM l)) ((aR l (aM l))*65)
 have y3:=cZP H l n c ty ks ty2 own N ih (aJ L) L.length L.length (aR l (aM l)) ((aR l (aM l))*65)
 have y4:=cPZ H l n c ty ks ty2 own N ih (aJ L) L.length L.length (aR l (aM l)) ((aR l (aM l))*65)
 have y5:=cZZ H l n c ty ks ty2 own N ih (aJ L) L.length L.length (aR l (aM l)) ((aR l (aM l))*65)
 rw[w2,q2] at x1 x2
 rw[w2,r2'] at y1 y2 y3 y4 y5
 generalize cK H own (l.take (aR l (aM l))) L=A at*
 generalize cK H own (l.drop (aR l (aM l))) L=B at*
 have ya:((ah B).drop (0+0)).take (B.length*65)=ah B:=dtn rfl
 have lB:(ah B).length=B.length*65:=bH B
 have lA:(ah A).length=A.length*65:=bH A
 refine Runs.seq (Runs.region ?_)
 by_cases ha:A=[]
 ·refine aS.au aj 4 (x2 ha g) ⟨by omega,by omega,by omega,Nat.le_refl _,e1,q3,by omega,q4,q5,hW,rfl,hLb,hLo,ha,trivial⟩ (iVZ l n c ty ks ty2 own _ _ _ _ _ _) rfl fun g=> ?_
  rw[ha,List.nil_append]
  by_cases hb:B=[]
  ·refine aS.aP aj 6 [0,1] (y5 g) ⟨by omega,by omega,by omega,Nat.le_refl _,e2,r3',by omega,r4',r5',hW,rfl,hLb,hLo,hb,rfl,trivial⟩ (iN l ty ks ty2) rfl fun g=> ?_
   rw[nil1,hb]
   exact aS.nil (Runs.au aj mixed (en H hH l ty ks ty2 g) trivial (iN l ty ks ty2) rfl fun g=>ends_n H hH l n c ty ks m mc ty2 own g)
  ·refine aS.aP aj 6 [0,1,4] (y3 g) ⟨by omega,by omega,by omega,Nat.le_refl _,e2,r3',by omega,r4',r5',hW,rfl,hLb,hLo,hb,by omega,List.length_pos_iff.2 hb,mY _ (by omega),trivial⟩ (iR l ty ks ty2 _ _ _) rfl fun g=> ?_
   rw[nil1]
   exact aS.nil (Runs.au aj mixed (er H hH l ty ks ty2 _ _ _ g) trivial (iR l ty ks ty2 _ _ _) rfl fun g=>kT H hH l n c ty ks m mc ty2 own _ _ g B hb ya rfl)
 ·refine aS.au aj 4 (x1 ha g) ⟨by omega,by omega,by omega,Nat.le_refl _,e1,q3,by omega,q4,q5,hW,rfl,hLb,hLo,ha,trivial⟩ (iVP l n c ty ks ty2 own _ _ _ _ _ _ _ _ _ _) rfl fun g=> ?_
  by_cases hb:B=[]
  ·refine aS.aP aj 6 [0,1,3] (y4 _ _ g) ⟨by omega,by omega,by omega,Nat.le_refl _,e2,r3',by omega,r4',r5',hW,rfl,hLb,hLo,hb,by omega,Nat.le_refl _,fun v hv=>(by cases hv),trivial⟩ (iR l ty ks ty2 _ _ _) rfl fun g=> ?_
   rw[nil1,hb,List.append_nil,List.append_nil]
   exact aS.nil (Runs.au aj mixed (er H hH l ty ks ty2 _ _ _ g) trivial (iR l ty ks ty2 _ _ _) rfl fun g=>kT H hH l n c ty ks m mc ty2 own _ _ g A ha rfl rfl)
  ·have hne:A++B≠[]:=fun h=>ha (List.append_eq_nil_iff.1 h).1
   refine aS.mh 3 (A.length+B.length) (own:=true) (ty:=33) (s:=65) (vs:=ah A) (lo:=A.length) rfl ?_ ?_
   ·refine aS.aP aj 6 [0,1,3] (y1 (ah A) A.length g) ⟨by omega,by omega,by omega,Nat.le_refl _,e2,r3',by omega,r4',r5',hW,rfl,hLb,hLo,hb,by omega,by omega,Nat.le_refl _,by rw[ya];exact oneVs B,trivial⟩ (iR l ty ks ty2 _ _ _) rfl fun g=> ?_
    rw[nil1]
    exact aS.nil (Runs.au aj mixed (er H hH l ty ks ty2 _ _ _ g) trivial (iR l ty ks ty2 _ _ _) rfl fun g=>kT H hH l n c ty ks m mc ty2 own _ _ g (A++B) hne (by rw[ya,ko]) (by rw[List.length_append]))
   ·refine aS.aP aj 6 [0,1,5] (y2 (ah A) A.length A.length g) ⟨by omega,by omega,by omega,Nat.le_refl _,e2,r3',by omega,r4',r5',hW,rfl,hLb,hLo,hb,by omega,by omega,Nat.le_refl _,mY _ (by omega),trivial⟩ (iR l ty ks ty2 _ _ _) rfl fun g=> ?_
    rw[nil1]
    exact aS.nil (Runs.au aj mixed (er H hH l ty ks ty2 _ _ _ g) trivial (iR l ty ks ty2 _ _ _) rfl fun g=>kT H hH l n c ty ks m mc ty2 own _ _ g (A++B) hne (by rw[ya,ko]) (by rw[List.length_append]))
def MA (H:Nd→Nd→B32) (hH:H=hV) (l:List Nd) (n c:Nat) (ty:TypeId) (ks:List B32) (m mc:Nat) (ty2:TypeId) (own:Bool) (j:Int):List B32→List (Option SV)
 | []=>MZ n c m mc own j
 | a::r=>MP n c m mc own j (r.length+1)
def mA (l:List Nd) (ty:TypeId) (ks:List B32) (ty2:TypeId) (x:Nd):List B32→List Blk
 | []=>m2 l ty ks ty2 x
 | a::r=>m3 l ty ks ty2 x (aJ (a::r)) (r.length+1) none
theorem MA_ne (H:Nd→Nd→B32) (hH:H=hV) (l:List Nd) (n c:Nat) (ty:TypeId) (ks:List B32) (m mc:Nat) (ty2:TypeId) (own:Bool) (j:Int) {L:List B32} (h:L≠[]):MA H hH l n c ty ks m mc ty2 own j L=MP n c m mc own j L.length:=by
 cases L with
 | nil=>exact absurd rfl h
 | cons a r=>rfl
theorem mA_ne (l:List Nd) (ty:TypeId) (ks:List B32) (ty2:TypeId) (x:Nd) {L:List B32} (h:L≠[]):mA l ty ks ty2 x L=m3 l ty ks ty2 x (aJ L) L.length none:=by
 cases L with
 | nil=>exact absurd rfl h
 | cons a r=>rfl
theorem loop (H:Nd→Nd→B32) (hH:H=hV) (l:List Nd) (n c:Nat) (ty:TypeId) (ks:List B32) (m mc:Nat) (ty2:TypeId) (own:Bool) (hm:ks.length=m) (hmb:m≤4000000) (hmc:m≤mc) (hkb:gq ks) (x:Nd) (hx:BOk x.pre) {Post:Ex→List SV→List Blk→Prop}
  (hz:ks.filter (holdsV x)=[]→∀g,Post (.exit 0) (fill g 0 (M0 n c m mc own)) (m2 l ty ks ty2 x))
  (hp:ks.filter (holdsV x)≠[]→∀g,Post (.exit 0) (fill g 0 (MQ n c m mc own (ks.filter (holdsV x)).length)) (m3 l ty ks ty2 x (aJ (ks.filter (holdsV x))) (ks.filter (holdsV x)).length none)) (g:Nat→SV):
  aF Tryd.prog GT 2 (.loop L) (fill g 0 (MZ n c m mc own 0)) (m2 l ty ks ty2 x) Post:=by
 have hwl:(aJ ks).length=m*32:=by rw[←hm];exact l7 ks
 refine Runs.dA (fun(i:Nat)=>MA H hH l n c ty ks m mc ty2 own (i:Int) ((ks.take i).filter (holdsV x))) (fun i=>mA l ty ks ty2 x ((ks.take i).filter (holdsV x))) (fun i=>i≤m) (fun i=>m-i) ?_ 0 (Nat.zero_le _) g
 rintro i g hi
 have hb0:((ks.take i).filter (holdsV x)).length≤i:=Nat.le_trans filt_bound (by rw[List.length_take];omega)
 rcases Nat.lt_or_ge i m with h | h
 ·have o32:=offs i 32
  have hb5:i*32+32≤m*32:=by have:=Nat.mul_le_mul_right 32 (show i+1≤m by omega);omega
  have hsx:=filt_succ (show i<ks.length by omega) (holdsV x)
  have hy:=hkb.at (show i<ks.length by omega)
  have ld:SV.o (.g (bn (aJ ks) (0+aN 0 (i:Int) 32) 32))=ay.enc (ks.getD i zB):=by rw[o32];exact ld_lab ks (by omega)
  have hw:IntKind.i64.wrap ((i:Int)+1)=((i+1:Nat):Int):=by rw[IntKind.wrap_i64];omega
  generalize hq:(ks.take i).filter (holdsV x)=Q at*
  have lQ:=l7 Q
  cases hh:holdsV x (ks.getD i zB) with
  | false=>
   rw[hh,cond_false] at hsx
   by_cases hQ:Q=[]
   ·subst hQ
    refine Runs.aP aj mixed [0,1,2] (zno H hH l n c ty ks m mc ty2 own x i ((i+1:Nat):Int) (ks.getD i zB) g) ⟨decide_eq_true (by omega),by omega,by omega,by omega,ld,hx,hy,by rw[hh],hw,trivial⟩ (iZ l n c ty ks m mc ty2 own _ _) rfl fun g=> ?_
    exact⟨i+1,g,by rw[hsx];rfl,by rw[hsx];rfl,by omega,by omega⟩
   ·rw[MA_ne _ _ _ _ _ _ _ _ _ _ _ _ hQ,mA_ne _ _ _ _ _ hQ]
    refine Runs.aP aj mixed [0,1,2,3] (pno H hH l n c ty ks m mc ty2 own x i ((i+1:Nat):Int) (ks.getD i zB) (aJ Q) Q.length none Q.length g) ⟨decide_eq_true (by omega),by omega,by omega,by omega,ld,hx,hy,by rw[hh],hw,trivial⟩ (iP l n c ty ks m mc ty2 own _ _ _ _ _ _) rfl fun g=> ?_
    exact⟨i+1,g,by rw[hsx,MA_ne _ _ _ _ _ _ _ _ _ _ _ _ hQ],by rw[hsx,mA_ne _ _ _ _ _ hQ],by omega,by omega⟩
  | true=>
   rw[hh,cond_true] at hsx
   by_cases hQ:Q=[]
   ·subst hQ
    refine Runs.aP aj mixed [0,1,2,5] (zyes H hH l n c ty ks m mc ty2 own x i ((i+1:Nat):Int) (ks.getD i zB) g) ⟨decide_eq_true (by omega),by omega,by omega,by omega,ld,hx,hy,by rw[hh],rfl,by rw[jQ];omega,by omega,roomL 1 (by omega),hw,trivial⟩ (iP l n c ty ks m mc ty2 own _ _ _ _ _ _) rfl fun g=> ?_
    exact⟨i+1,g,by rw[hsx];rfl,by rw[hsx];show m3 _ _ _ _ _ _ _ _=m3 _ _ _ _ _ (aJ [_]) _ _;rw[show aJ [ks.getD i zB]=fu (ks.getD i zB) from List.append_nil _];rfl,by omega,by omega⟩
   ·have hne:Q++[ks.getD i zB]≠[]:=by simp
    have e:aJ (Q++[ks.getD i zB])=aJ Q++fu (ks.getD i zB):=by rw[wvals_app,show aJ [ks.getD i zB]=fu (ks.getD i zB) from List.append_nil _]
    have el:(Q++[ks.getD i zB]).length=Q.length+1:=by simp
    rw[MA_ne _ _ _ _ _ _ _ _ _ _ _ _ hQ,mA_ne _ _ _ _ _ hQ]
    refine Runs.mh 3 (Q.length+1) (own:=true) (ty:=24) (s:=32) (vs:=aJ Q) (lo:=Q.length) rfl ?_ ?_
    ·refine Runs.aP aj mixed [0,1,2,3] (pyg H hH l n c ty ks m mc ty2 own x i ((i+1:Nat):Int) (ks.getD i zB) (aJ Q) Q.length g) ⟨decide_eq_true (by omega),by omega,by omega,by omega,ld,hx,hy,by rw[hh],rfl,by rw[jQ];omega,by omega,Nat.le_refl _,oneB _,hw,trivial⟩ (iP l n c ty ks m mc ty2 own _ _ _ _ _ _) rfl fun g=> ?_
     exact⟨i+1,g,by rw[hsx,MA_ne _ _ _ _ _ _ _ _ _ _ _ _ hne,el],by rw[hsx,mA_ne _ _ _ _ _ hne,el,e],by omega,by omega⟩
    ·refine Runs.aP aj mixed [0,1,2,6] (pyr H hH l n c ty ks m mc ty2 own x i ((i+1:Nat):Int) (ks.getD i zB) (aJ Q) Q.length Q.length g) ⟨decide_eq_true (by omega),by omega,by omega,by omega,ld,hx,hy,by rw[hh],rfl,by rw[jQ];omega,by omega,Nat.le_refl _,roomL _ (by omega),hw,trivial⟩ (iP l n c ty ks m mc ty2 own _ _ _ _ _ _) rfl fun g=> ?_
     exact⟨i+1,g,by rw[hsx,MA_ne _ _ _ _ _ _ _ _ _ _ _ _ hne,el],by rw[hsx,mA_ne _ _ _ _ _ hne,el,e],by omega,by omega⟩
 ·obtain rfl:i=m:=by omega
  have ht:ks.take i=ks:=List.take_of_length_le (by omega)
  rw[ht]
  by_cases hQ:ks.filter (holdsV x)=[]
  ·rw[hQ]
   exact Runs.au aj mixed (outz H hH l n c ty ks i mc ty2 own x _ g) ⟨decide_eq_false (by omega),trivial⟩ (i0 l n c ty ks i mc ty2 own _) rfl fun g=>hz hQ g
  ·rw[MA_ne _ _ _ _ _ _ _ _ _ _ _ _ hQ,mA_ne _ _ _ _ _ hQ]
   exact Runs.au aj mixed (outp H hH l n c ty ks i mc ty2 own x _ _ _ _ _ g) ⟨decide_eq_false (by omega),trivial⟩ (iQ l n c ty ks i mc ty2 own _ _ _ _ _) rfl fun g=>hp hQ g
theorem all (H:Nd→Nd→B32) (hH:H=hV):∀N,N≤4000001→IH H N
 | 0,_=>fun l n c ty ks m mc ty2 own hn h=>absurd h (by omega)
 | N+1,hN=>by
  have ih:=all H hH N (by omega)
  intro l n c ty ks m mc ty2 own hn hlt hc hok hap hm hmb hmc hkb
  have hA:=(gF hok).1 hap
  have hl:(ah l).length=n*65:=by rw[←hn];exact bH l
  have hHk:∀a b,BOk (H a b):=fun a b=>by rw[hH];exact gW a b
  obtain⟨y1,y2⟩:=ow n hn
  rcases Nat.eq_zero_or_pos n with h0 | h0
  ·have e0:l=[]:=List.eq_nil_of_length_eq_zero (by omega)
   refine Runs.au aj mixed (z0 H hH l n c ty ks m mc ty2 own) ⟨by rw[beq_iff_eq];omega,trivial⟩ (iN l ty ks ty2) rfl fun g=> ?_
   rw[show cK H own l ks=[] by rw[e0,aroV_nil]]
   exact ends_n H hH l n c ty ks m mc ty2 own g
  ·have hne:l≠[]:=by rw[←List.length_pos_iff];omega
   have okx:=(gT H hHk hA hne).2.1
   refine Runs.dz aj mixed 4 (s0 H hH l n c ty ks m mc ty2 own (bD H l)) ⟨by rw[←Bool.not_eq_true,beq_iff_eq];omega,by omega,hc,y1,by rw[y2];exact hn,by unfold bK;omega,h0,by rw[y2];exact hok,by rw[y2];exact hap,by rw[y2],trivial⟩ (i0 l n c ty ks m mc ty2 own _) rfl fun g=> ?_
   rw[dJ]
   refine Runs.seq (Runs.seq (Runs.au aj mixed (a1 H hH l n c ty ks m mc ty2 own _ g) trivial (iZ l n c ty ks m mc ty2 own _ _) rfl fun g=> ?_))
   refine Runs.block (loop H hH l n c ty ks m mc ty2 own hm hmb hmc hkb (bD H l) okx.1 (fun hf g=> ?_) (fun hf g=> ?_) g)
   ·show aF _ _ _ _ _ _ _
    rw[aroV_one H own ks (by omega) (.inl hf)]
    exact Runs.seq (Runs.aP aj mixed [0,1,3] (r1 H hH l n c ty ks m mc ty2 own (bD H l) g) ⟨rfl,trivial⟩ (iR l ty ks ty2 _ _ _) rfl fun g=>kT H hH l n c ty ks m mc ty2 own _ _ g [bD H l] (by simp) (kQ _).symm rfl)
   ·show aF _ _ _ _ _ _ _
    have hp:=List.length_pos_iff.2 hf
    have hfb:(ks.filter (holdsV (bD H l))).length≤ks.length:=filt_bound
    have q0:(((ks.filter (holdsV (bD H l))).length:Int)==0)=false:=by rw[←Bool.not_eq_true,beq_iff_eq];omega
    by_cases h1:n=1
    ·have q1:((n:Int)==1)=true:=by rw[beq_iff_eq];omega
     cases own with
     | true=>
      rw[aroV_one H true ks (by omega) (.inr ⟨by omega,rfl⟩)]
      exact Runs.seq (Runs.aP aj mixed [0,1,4] (r2 H hH l n c ty ks m mc ty2 (bD H l) _ _ _ _ g) ⟨q0,q1,rfl,trivial⟩ (iR l ty ks ty2 _ _ _) rfl fun g=>kT H hH l n c ty ks m mc ty2 true _ _ g [bD H l] (by simp) (kQ _).symm rfl)
     | false=>
      rw[aroV_gone H ks (by omega) hf]
      exact Runs.seq (Runs.aP aj mixed [0,1] (r3 H hH l n c ty ks m mc ty2 (bD H l) _ _ _ _ g) ⟨q0,q1,q1,trivial⟩ (iN l ty ks ty2) rfl fun g=>ends_n H hH l n c ty ks m mc ty2 false g)
    ·have q1:((n:Int)==1)=false:=by rw[←Bool.not_eq_true,beq_iff_eq];omega
     refine Runs.seq (Runs.aP aj mixed [0,1,3] (r4 H hH l n c ty ks m mc ty2 own (bD H l) _ _ _ _ g) ⟨q0,q1,q1,trivial⟩ (i3 l n c ty ks ty2 own _ _ _ _) rfl fun g=> ?_)
     exact halvesQ H hH l n c ty ks m mc ty2 own N ih (by omega) hn hlt hc hok hap (by omega) _ hf (by omega) (hkb.filter _) (aroV_two H hA (by omega) own ks hf) g
theorem ih (H:Nd→Nd→B32) (hH:H=hV):IH H 4000001:=all H hH 4000001 (Nat.le_refl _)
noncomputable def cP (H:Nd→Nd→B32) (hH:H=hV):Con Tryd.prog GT:=conP H 4000001 (ih H hH)
noncomputable def cZ (H:Nd→Nd→B32) (hH:H=hV):Con Tryd.prog GT:=conZ H 4000001 (ih H hH)
end tar
namespace rwi
section
variable (H:Nd→Nd→B32)
theorem kT (hH:H=hV) (l:List Nd) (n c:Nat) (ty:TypeId) (ks:List B32) (m mc:Nat) (ty2:TypeId) (own:Bool) (us:List Value) (u:Nat) (g:Nat→SV) (k:Nat) (R:List Nd) (hR:R≠[]) (h1:us=ah R) (h2:u=R.length):aH tys fn (fun r mm=>Qa k R r mm) .ret (fill g 0 (MR u)) (mr l ty ks ty2 us u):=by
 subst h1 h2
 exact aH.ret (zr l ty ks ty2 _ _ _ g) (.inr (.inr ⟨hR,2,rfl,rfl⟩))
theorem ends_n (hH:H=hV) (l:List Nd) (n c:Nat) (ty:TypeId) (ks:List B32) (m mc:Nat) (ty2:TypeId) (own:Bool) (g:Nat→SV) (k:Nat) (hk:k≤1):aH tys fn (fun r mm=>Qa k [] r mm) .ret (fill g 0 (MN)) (m0 l ty ks ty2):=
 aH.ret (zn l ty ks ty2 g) (.inl ⟨rfl,hk,rfl⟩)
theorem ends_e (hH:H=hV) (l:List Nd) (n c:Nat) (ty:TypeId) (ks:List B32) (m mc:Nat) (ty2:TypeId) (own:Bool) (g:Nat→SV) (k:Nat) (hk:2≤k):aH tys fn (fun r mm=>Qa k [] r mm) .ret (fill g 0 (ME)) (me l ty ks ty2):=
 aH.ret (ze l ty ks ty2 g) (.inr (.inl ⟨rfl,hk,2,rfl,rfl⟩))
theorem halvesQ (hH:H=hV) (l:List Nd) (n c:Nat) (ty:TypeId) (ks:List B32) (m mc:Nat) (ty2:TypeId) (own:Bool) (N:Nat) (ih:IH H N) (hN:N≤4000000) (hn:l.length=n) (hlt:n<N+1) (hc:n≤c) (hok:bg l) (hap:bC l=true) (h2:2≤n) (hm:ks.length=m) (hmb:m≤4000000) (hmc:m≤mc) (hkb:gq ks) (hr:bT H own l ks=bT H own (l.take (aR l (aM l))) ks++bT H own (l.drop (aR l (aM l))) ks) (g:Nat→SV):
  aF Tryd.prog GT 2 (.seq R14 (.seq (.region i15 (opsOf R15) false) Z)) (fill g 0 (M0 n c m mc own true)) (m2 l ty ks ty2 (bD H l)) (aH tys fn (fun r mm=>Qa n (bT H own l ks) r mm)):=by
 have hA:=(gF hok).1 hap
 have hs:=halves hA (by omega)
 have k0:=hs.k0
 have kl:=hs.kl
 have c256:=hs.c256
 have hY:=dtn hn
 have hl:(ah l).length=n*65:=by rw[←hn];exact bH l
 have hHk:∀a b,BOk (H a b):=fun a b=>by rw[hH];exact gW a b
 obtain⟨⟨q1,q2,q3,q4,q5⟩,r1',r2',r3',r4',r5'⟩:=ug hn hok hap (show aR l (aM l)≤n by omega)
 have e1:=dtA l (aR l (aM l))
 have e2:=dtB hn (aR l (aM l))
 have hk1:aR l (aM l)*65≤n*65:=Nat.mul_le_mul_right _ (by omega)
 have hk2:(n-aR l (aM l))*65=n*65-aR l (aM l)*65:=Nat.sub_mul _ _ _
 have hW:=dtb hm
 have hwl:(aJ ks).length=m*32:=by rw[←hm];exact l7 ks
 have w2:aO (((aJ ks).drop (0+0)).take (m*32))=ks:=by rw[hW,nD]
 have la:=qV H hHk own (jh hA (aR l (aM l))) ks
 have lb:=qV H hHk own (ji hA (aR l (aM l))) ks
 rw[q3] at la
 rw[r3'] at lb
 have jl:=(uw H hA (by omega)).1
 have ht:(bD H l).len.toNat=aM l:=by rw[jl];rfl
 refine Runs.seq (Runs.au aj mixed (sp H hH l n c ty ks m mc ty2 own (bD H l) (aR l (aM l)) ((aR l (aM l))*65) g) ⟨by omega,hc,by rw[hY,bE],by rw[hY,bE];exact hn,by unfold bK;omega,by rw[jl];omega,by rw[jl];omega,by rw[hY,bE];exact hok,by rw[hY,bE,ht];exact sG hs,by rw[hY,bE,ht];omega,by rw[hY,bE,ht,Nat.zero_add,Nat.zero_add],trivial⟩ (i4 l n c ty ks m mc ty2 own _ _) rfl fun g=> ?_)
 rw[hr]
 have x1:=dP H l n c ty ks m mc ty2 own N ih (aR l (aM l)) ((aR l (aM l))*65)
 have x2:=dY H l n c ty ks m mc ty2 own N ih (aR l (aM l)) ((aR l (aM l))*65)
 have x3:=dZ H l n c ty ks m mc ty2 own N ih (aR l (aM l)) ((aR l (aM l))*65)
 have y1:=ePg H l n c ty ks m mc ty2 own N ih (aR l (aM l)) ((aR l (aM l))*65)
 have y2:=ePr H l n c ty ks m mc ty2 own N ih (aR l (aM l)) ((aR l (aM l))*65)
 have y3:=gP H l n c ty ks m mc ty2 own N ih (aR l (aM l)) ((aR l (aM l))*65)
 have y4:=eY H l n c ty ks m mc ty2 own N ih (aR l (aM l)) ((aR l (aM l))*65)
 have y5:=eZ H l n c ty ks m mc ty2 own N ih (aR l (aM l)) ((aR l (aM l))*65)
 have y6:=gY H l n c ty ks m mc ty2 own N ih (aR l (aM l)) ((aR l (aM l))*65)
 have y7:=gZ H l n c ty ks m mc ty2 own N ih (aR l (aM l)) ((aR l (aM l))*65)
 rw[w2,q2] at x1 x2 x3
 rw[w2,r2'] at y1 y2 y3 y4 y5 y6 y7
 generalize bT H own (l.take (aR l (aM l))) ks=A at*
 generalize bT H own (l.drop (aR l (aM l))) ks=B at*
 have xa:((ah A).drop (0+0)).take (A.length*65)=ah A:=dtn rfl
 have ya:((ah B).drop (0+0)).take (B.length*65)=ah B:=dtn rfl
 have lB:(ah B).length=B.length*65:=bH B
 have lA:(ah A).length=A.length*65:=bH A
 have nx:∀g,A=[]→aS Tryd.prog GT 2 (opsOf R15) ((opsOf R15).toList.drop 6) (fill g 0 (MVE n c m mc own (aR l (aM l)) ((aR l (aM l))*65))) (me l ty ks ty2) (fun e t m=>match e with | .normal=>aF Tryd.prog GT 2 Z t m (aH tys fn (fun r mm=>Qa n (A++B) r mm)) | .exit i=>aH tys fn (fun r mm=>Qa n (A++B) r mm) (.exit i) t m | .ret=>aH tys fn (fun r mm=>Qa n (A++B) r mm) .ret t m):=fun g ha=>by
  rw[ha,List.nil_append]
  by_cases hb:B=[]
  ·rcases Nat.lt_or_ge (n-(aR l (aM l))) 2 with h3 | h3
   ·refine aS.au aj 6 (y6 g) ⟨by omega,by omega,by omega,hmc,e2,r3',by omega,r4',r5',hW,hm,hmb,hkb,hb,by omega,rfl,trivial⟩ (iE l ty ks ty2) rfl fun g=> ?_
    rw[nil1,hb]
    exact aS.nil (Runs.au aj mixed (ee H hH l ty ks ty2 g) trivial (iE l ty ks ty2) rfl fun g=>ends_e H hH l n c ty ks m mc ty2 own g n h2)
   ·refine aS.au aj 6 (y7 g) ⟨by omega,by omega,by omega,hmc,e2,r3',by omega,r4',r5',hW,hm,hmb,hkb,hb,h3,by omega,rfl,trivial⟩ (iE l ty ks ty2) rfl fun g=> ?_
    rw[nil1,hb]
    exact aS.nil (Runs.au aj mixed (ee H hH l ty ks ty2 g) trivial (iE l ty ks ty2) rfl fun g=>ends_e H hH l n c ty ks m mc ty2 own g n h2)
  ·refine aS.aP aj 6 [0,1,4] (y3 g) ⟨by omega,by omega,by omega,hmc,e2,r3',by omega,r4',r5',hW,hm,hmb,hkb,hb,by omega,List.length_pos_iff.2 hb,mY _ (by omega),trivial⟩ (iR l ty ks ty2 _ _ _) rfl fun g=> ?_
   rw[nil1]
   exact aS.nil (Runs.au aj mixed (er H hH l ty ks ty2 _ _ _ g) trivial (iR l ty ks ty2 _ _ _) rfl fun g=>kT H hH l n c ty ks m mc ty2 own _ _ g n B hb ya rfl)
 refine Runs.seq (Runs.region ?_)
 by_cases ha:A=[]
 ·rcases Nat.lt_or_ge (aR l (aM l)) 2 with h3 | h3
  ·exact aS.au aj 6 (x2 g) ⟨by omega,by omega,by omega,hmc,e1,q3,by omega,q4,q5,hW,hm,hmb,hkb,ha,by omega,rfl,trivial⟩ (iVE l n c ty ks m mc ty2 own _ _) rfl fun g=>nx g ha
  ·exact aS.au aj 6 (x3 g) ⟨by omega,by omega,by omega,hmc,e1,q3,by omega,q4,q5,hW,hm,hmb,hkb,ha,h3,by omega,rfl,trivial⟩ (iVE l n c ty ks m mc ty2 own _ _) rfl fun g=>nx g ha
 ·refine aS.aP aj 6 [0,1,4] (x1 g) ⟨by omega,by omega,by omega,hmc,e1,q3,by omega,q4,q5,hW,hm,hmb,hkb,ha,by omega,List.length_pos_iff.2 ha,mY _ (by omega),trivial⟩ (iVP l n c ty ks m mc ty2 own _ _ _ _ _ _) rfl fun g=> ?_
  rw[xa]
  by_cases hb:B=[]
  ·rcases Nat.lt_or_ge (n-(aR l (aM l))) 2 with h3 | h3
   ·refine aS.aP aj 6 [0,1,2] (y4 _ _ g) ⟨by omega,by omega,by omega,hmc,e2,r3',by omega,r4',r5',hW,hm,hmb,hkb,hb,by omega,by omega,Nat.le_refl _,fun v hv=>(by cases hv),trivial⟩ (iR l ty ks ty2 _ _ _) rfl fun g=> ?_
    rw[nil1,hb,List.append_nil,List.append_nil]
    exact aS.nil (Runs.au aj mixed (er H hH l ty ks ty2 _ _ _ g) trivial (iR l ty ks ty2 _ _ _) rfl fun g=>kT H hH l n c ty ks m mc ty2 own _ _ g n A ha rfl rfl)
   ·refine aS.aP aj 6 [0,1,2] (y5 _ _ g) ⟨by omega,by omega,by omega,hmc,e2,r3',by omega,r4',r5',hW,hm,hmb,hkb,hb,h3,by omega,by omega,Nat.le_refl _,fun v hv=>(by cases hv),trivial⟩ (iR l ty ks ty2 _ _ _) rfl fun g=> ?_
    rw[nil1,hb,List.append_nil,List.append_nil]
    exact aS.nil (Runs.au aj mixed (er H hH l ty ks ty2 _ _ _ g) trivial (iR l ty ks ty2 _ _ _) rfl fun g=>kT H hH l n c ty ks m mc ty2 own _ _ g n A ha rfl rfl)
  ·have hne:A++B≠[]:=fun h=>ha (List.append_eq_nil_iff.1 h).1
   refine aS.mh 2 (A.length+B.length) (own:=true) (ty:=33) (s:=65) (vs:=ah A) (lo:=A.length) rfl ?_ ?_
   ·refine aS.aP aj 6 [0,1,2] (y1 (ah A) A.length g) ⟨by omega,by omega,by omega,hmc,e2,r3',by omega,r4',r5',hW,hm,hmb,hkb,hb,by omega,by omega,Nat.le_refl _,by rw[ya];exact oneVs B,trivial⟩ (iR l ty ks ty2 _ _ _) rfl fun g=> ?_
    rw[nil1]
    exact aS.nil (Runs.au aj mixed (er H hH l ty ks ty2 _ _ _ g) trivial (iR l ty ks ty2 _ _ _) rfl fun g=>kT H hH l n c ty ks m mc ty2 own _ _ g n (A++B) hne (by rw[ya,ko]) (by rw[List.length_append]))
   ·refine aS.aP aj 6 [0,1,4] (y2 (ah A) A.length A.length g) ⟨by omega,by omega,by omega,hmc,e2,r3',by omega,r4',r5',hW,hm,hmb,hkb,hb,by omega,by omega,Nat.le_refl _,mY _ (by omega),trivial⟩ (iR l ty ks ty2 _ _ _) rfl fun g=> ?_
    rw[nil1]
    exact aS.nil (Runs.au aj mixed (er H hH l ty ks ty2 _ _ _ g) trivial (iR l ty ks ty2 _ _ _) rfl fun g=>kT H hH l n c ty ks m mc ty2 own _ _ g n (A++B) hne (by rw[ya,ko]) (by rw[List.length_append]))
theorem loop (hH:H=hV) (l:List Nd) (n c:Nat) (ty:TypeId) (ks:List B32) (m mc:Nat) (ty2:TypeId) (own:Bool) (hm:ks.length=m) (hmb:m≤4000000) (hmc:m≤mc) (hkb:gq ks) (x:Nd) (hx:BOk x.pre) {Post:Ex→List SV→List Blk→Prop} (hp:∀g,Post (.exit 0) (fill g 0 (M0 n c m mc own (ks.any (holdsV x)))) (m2 l ty ks ty2 x)) (g:Nat→SV):
  aF Tryd.prog GT 2 (.loop L) (fill g 0 (M1 n c m mc own false 0)) (m2 l ty ks ty2 x) Post:=by
 have hwl:(aJ ks).length=m*32:=by rw[←hm];exact l7 ks
 refine Runs.dA (fun(i:Nat)=>M1 n c m mc own ((ks.take i).any (holdsV x)) (i:Int)) (fun _=>m2 l ty ks ty2 x) (fun i=>i≤m) (fun i=>m-i) ?_ 0 (Nat.zero_le _) g
 rintro i g hi
 rcases Nat.lt_or_ge i m with h | h
 ·have o32:=offs i 32
  have hb5:i*32+32≤m*32:=by have:=Nat.mul_le_mul_right 32 (show i+1≤m by omega);omega
  have hsx:=any_succ (show i<ks.length by omega) (holdsV x)
  have hy:=hkb.at (show i<ks.length by omega)
  have ld:SV.o (.g (bn (aJ ks) (0+aN 0 (i:Int) 32) 32))=ay.enc (ks.getD i zB):=by rw[o32];exact ld_lab ks (by omega)
  have hw:IntKind.i64.wrap ((i:Int)+1)=((i+1:Nat):Int):=by rw[IntKind.wrap_i64];omega
  cases hq:(ks.take i).any (holdsV x) with
  | true=>
   rw[hq,Bool.true_or] at hsx
   refine Runs.au aj mixed (tst H hH l n c ty ks m mc ty2 own x i ((i+1:Nat):Int) g) ⟨decide_eq_true (by omega),hw,trivial⟩ (i1 l n c ty ks m mc ty2 own _ _ _) rfl fun g=> ?_
   exact⟨i+1,g,by rw[hsx],rfl,by omega,by omega⟩
  | false=>
   rw[hq,Bool.false_or] at hsx
   cases hh:holdsV x (ks.getD i zB) with
   | false=>
    rw[hh] at hsx
    refine Runs.au aj mixed (fno H hH l n c ty ks m mc ty2 own x i ((i+1:Nat):Int) (ks.getD i zB) g) ⟨decide_eq_true (by omega),by omega,by omega,by omega,ld,hx,hy,by rw[hh],hw,trivial⟩ (i1 l n c ty ks m mc ty2 own _ _ _) rfl fun g=> ?_
    exact⟨i+1,g,by rw[hsx],rfl,by omega,by omega⟩
   | true=>
    rw[hh] at hsx
    refine Runs.au aj mixed (fyes H hH l n c ty ks m mc ty2 own x i ((i+1:Nat):Int) (ks.getD i zB) g) ⟨decide_eq_true (by omega),by omega,by omega,by omega,ld,hx,hy,by rw[hh],hw,trivial⟩ (i1 l n c ty ks m mc ty2 own _ _ _) rfl fun g=> ?_
    exact⟨i+1,g,by rw[hsx],rfl,by omega,by omega⟩
 ·obtain rfl:i=m:=by omega
  have ht:ks.take i=ks:=List.take_of_length_le (by omega)
  rw[ht]
  exact Runs.au aj mixed (out H hH l n c ty ks i mc ty2 own x _ _ g) ⟨decide_eq_false (by omega),trivial⟩ (i0 l n c ty ks i mc ty2 own _ _) rfl fun g=>hp g
end
theorem all (H:Nd→Nd→B32) (hH:H=hV):∀N,N≤4000001→IH H N
 | 0,_=>fun l n c ty ks m mc ty2 own hn h=>absurd h (by omega)
 | N+1,hN=>by
  have ih:=all H hH N (by omega)
  intro l n c ty ks m mc ty2 own hn hlt hc hok hap hm hmb hmc hkb
  have hA:=(gF hok).1 hap
  have hl:(ah l).length=n*65:=by rw[←hn];exact bH l
  have hHk:∀a b,BOk (H a b):=fun a b=>by rw[hH];exact gW a b
  obtain⟨y1,y2⟩:=ow n hn
  rcases Nat.eq_zero_or_pos n with h0 | h0
  ·have e0:l=[]:=List.eq_nil_of_length_eq_zero (by omega)
   refine Runs.au aj mixed (z0 H hH l n c ty ks m mc ty2 own) ⟨by rw[beq_iff_eq];omega,trivial⟩ (iN l ty ks ty2) rfl fun g=> ?_
   rw[show bT H own l ks=[] by rw[e0,witV_nil]]
   exact ends_n H hH l n c ty ks m mc ty2 own g n (by omega)
  ·have hne:l≠[]:=by rw[←List.length_pos_iff];omega
   have okx:=(gT H hHk hA hne).2.1
   refine Runs.dz aj mixed 4 (s0 H hH l n c ty ks m mc ty2 own (bD H l)) ⟨by rw[←Bool.not_eq_true,beq_iff_eq];omega,by omega,hc,y1,by rw[y2];exact hn,by unfold bK;omega,h0,by rw[y2];exact hok,by rw[y2];exact hap,by rw[y2],trivial⟩ (i0 l n c ty ks m mc ty2 own _ _) rfl fun g=> ?_
   rw[dJ]
   refine Runs.seq (Runs.seq (Runs.au aj mixed (a1 H hH l n c ty ks m mc ty2 own _ g) trivial (i1 l n c ty ks m mc ty2 own _ _ _) rfl fun g=> ?_))
   refine Runs.block (loop H hH l n c ty ks m mc ty2 own hm hmb hmc hkb (bD H l) okx.1 (fun g=> ?_) g)
   show aF _ _ _ _ _ _ _
   cases hf:ks.any (holdsV (bD H l)) with
   | false=>
    rw[witV_one H own ks (by omega) (.inl hf)]
    exact Runs.seq (Runs.aP aj mixed [0,1,3] (r1 H hH l n c ty ks m mc ty2 own (bD H l) g) ⟨rfl,trivial⟩ (iR l ty ks ty2 _ _ _) rfl fun g=>kT H hH l n c ty ks m mc ty2 own _ _ g n [bD H l] (by simp) (kQ _).symm rfl)
   | true=>
    by_cases h1:n=1
    ·have q1:((n:Int)==1)=true:=by rw[beq_iff_eq];omega
     cases own with
     | true=>
      rw[witV_one H true ks (by omega) (.inr ⟨by omega,rfl⟩)]
      exact Runs.seq (Runs.aP aj mixed [0,1,3] (r2 H hH l n c ty ks m mc ty2 (bD H l) g) ⟨q1,rfl,trivial⟩ (iR l ty ks ty2 _ _ _) rfl fun g=>kT H hH l n c ty ks m mc ty2 true _ _ g n [bD H l] (by simp) (kQ _).symm rfl)
     | false=>
      rw[witV_gone H ks (by omega) hf]
      refine Runs.seq (Runs.au aj mixed (ka H hH l n c ty ks m mc ty2 (bD H l) g) ⟨q1,trivial⟩ (i0 l n c ty ks m mc ty2 false _ _) rfl fun g=> ?_)
      exact Runs.seq (Runs.au aj mixed (r3 H hH l n c ty ks m mc ty2 false (bD H l) g) ⟨q1,trivial⟩ (iN l ty ks ty2) rfl fun g=>ends_n H hH l n c ty ks m mc ty2 false g n (by omega))
    ·have q1:((n:Int)==1)=false:=by rw[←Bool.not_eq_true,beq_iff_eq];omega
     refine Runs.seq (Runs.au aj mixed (kb H hH l n c ty ks m mc ty2 own (bD H l) g) ⟨q1,trivial⟩ (i0 l n c ty ks m mc ty2 own _ _) rfl fun g=> ?_)
     refine Runs.seq (Runs.au aj mixed (r4 H hH l n c ty ks m mc ty2 own (bD H l) g) ⟨q1,trivial⟩ (i0 l n c ty ks m mc ty2 own _ _) rfl fun g=> ?_)
     exact halvesQ H hH l n c ty ks m mc ty2 own N ih (by omega) hn hlt hc hok hap (by omega) hm hmb hmc hkb (witV_two H hA (by omega) own ks hf) g
theorem ih (H:Nd→Nd→B32) (hH:H=hV):IH H 4000001:=all H hH 4000001 (Nat.le_refl _)
noncomputable def cP (H:Nd→Nd→B32) (hH:H=hV):Con Tryd.prog GT:=conP H 4000001 (ih H hH)
end rwi
end Go.Proofs.YtdccehmekkcheaaDoor
