/- Package beaconref12: Stays: run, contracts. -/
import Derived.Test.YtdccehmekkcheaaDoorYGrF
import Derived.Test.YtdccehmekkcheaaDoorYDsF
namespace Go.Proofs.YtdccehmekkcheaaDoor
open Go Go.Eng Go.RowKit
set_option linter.unusedVariables false
set_option linter.unusedSimpArgs false
set_option maxRecDepth 100000
noncomputable def stR (H:Nd→Nd→B32) (A B:List Lf):List Nd:=witV H false (rndA A A.length) (labs B)
theorem dup_ne {l:List Lf} (h:AllL l) (hd:rndD l l.length=false):(l.map leafV).Pairwise NeP:=by
 have hp:=rnd_perm l l.length (Nat.le_refl _)
 rw[leaves_all] at hp
 exact ne_perm hp ((rnd_pair h _ (Nat.le_refl _) hd).imp fun h=>h.ne)
theorem dup_left {A B:List Lf} (hA:AllL A) (hB:AllL B) (hd:rndD (A++B) (A++B).length=false):rndD A A.length=false:=
 ne_dup (ne_left (dup_ne (hA.app hB) hd)) _ (Nat.le_refl _)
theorem leaf_holds {z:Lf} (hz:LOk z) {x:B32} (hx:BOk x):holdsV (leafV z) x=true↔z.lab=x:=by
 rw[holds_iff (leaf_good hz)]
 constructor
 ·intro h
  have h:256≤comV z.lab x:=h
  exact eq_of_com hz.1 hx (Nat.le_antisymm (com_le _ _) h)
 ·rintro rfl
  show 256≤comV z.lab z.lab
  rw[com_self]
  exact Nat.le_refl _
theorem cross {A B:List Lf} (h:((A++B).map leafV).Pairwise NeP) {z y:Lf} (hz:z∈A) (hy:y∈B):z.lab≠y.lab:=by
 rw[List.map_append,List.pairwise_append] at h
 exact h.2.2 _ (List.mem_map_of_mem hz) _ (List.mem_map_of_mem hy)
theorem not_held {A B:List Lf} (hA:AllL A) (hB:AllL B) (h:((A++B).map leafV).Pairwise NeP) {z:Lf} (hz:z∈A):∀x∈labs B,holdsV (leafV z) x=false:=fun x hx=>by
 obtain⟨y,hy,rfl⟩:=List.mem_map.1 hx
 rw[←Bool.not_eq_true,leaf_holds (hA z hz) (hB y hy).1]
 exact cross h hz hy
theorem st_ne {H:Nd→Nd→B32} (hH:∀a b,BOk (H a b)) {A B:List Lf} (hA:AllL A) (hB:AllL B) (h0:0<A.length) (hd:rndD (A++B) (A++B).length=false):stR H A B≠[]:=fun e=>by
 have hne:=dup_ne (hA.app hB) hd
 have hdA:=dup_left hA hB hd
 have hAp:=rnd_ap hA hdA
 have hl:=rndA_len A A.length
 have hr:rndA A A.length≠[]:=by rw[←List.length_pos_iff,hl];exact h0
 have W:=witV_spec H hH false hAp hr (labs B)
 obtain⟨n,hn⟩:=List.exists_mem_of_ne_nil _ hr
 obtain⟨z,hz,rfl⟩:=mem_rnd hn
 unfold stR at e
 rcases W.all _ hn with⟨p,hp,_⟩ | ⟨_,x,hx,hh⟩
 ·rw[e] at hp;cases hp
 ·rw[not_held hA hB hne hz x hx] at hh;cases hh
namespace rst
noncomputable def Qr (nb:Nat) (e:Bool) (R:List Nd) (r:SV) (mm:List Blk):Prop:=
 (e=true∧aT (.t [.a (.v (.slice none 0 0)),.a (int1 .i64 1)]) .none r mm)∨(e=false∧R=[]∧aT (.t [.a (.v (.slice none 0 0)),.a (int1 .i64 0)]) .none r mm)∨(e=false∧R≠[]∧aT (.t [.a (.slg 0 R.length),.a (int1 .i64 0)]) (.new 33 (.grv 65 (ah R) R.length none)) r mm)
namespace pw
theorem reg (H:Nd→Nd→B32) (hH:H=hV) (A:List Lf) (n c:Nat) (ty:TypeId) (B:List Lf) (m d:Nat) (ty2:TypeId) (hn:A.length=n) (hc:n≤c) (hA:AllL A) (hm:B.length=m) (hd:m≤d) (hB:AllL B) (hb:n+m≤4000000) (h0:0<n) {Post:Ex→List SV→List Blk→Prop} (hp:∀g,Post .normal (fill g 0 (M1 n c m d (!rndD (A++B) (A++B).length))) (m0 A ty B ty2)) (g:Nat→SV):
  aC Tryd.prog GT 2 (.region rst.i1 (opsOf R1) false) (fill g 0 (M0 n c m d)) (m0 A ty B ty2) Post:=by
 have hYA:((lvals A).drop (0+0)).take (n*64)=lvals A:=dtl hn
 have la:(lvals A).length=n*64:=by rw[←hn];exact aU A
 have hYB:((lvals B).drop (0+0)).take (m*64)=lvals B:=dtl hm
 have lb:(lvals B).length=m*64:=by rw[←hm];exact aU B
 have hab:AllL (A++B):=hA.app hB
 have eE:=lope.lfDec0
 refine Runs.region ?_
 refine aJ.aH aj 3 [0,1,3] (c1 A n c ty B m d ty2 g) ⟨by omega,h0,roomLf n (by omega),trivial⟩ (iP A n c ty B m d ty2 _ _ _) rfl fun g=> ?_
 rw[hYA]
 have hAB:((lvals A++lvals B).drop (0+0)).take ((n+m)*64)=lvals (A++B):=by rw[←lvals_app];exact dtl (by rw[List.length_append,hn,hm])
 have lAB:(lvals A++lvals B).length=(n+m)*64:=by rw[List.length_append,la,lb,Nat.add_mul]
 have lab:(A++B).length=n+m:=by rw[List.length_append,hn,hm]
 cases hq:rndD (A++B) (A++B).length with
 | true=>
  rw[hq] at hp
  refine aJ.roomV 2 (n+m) (own:=true) (ty:=30) (s:=64) (vs:=lvals A) (lo:=n) rfl ?_ ?_
  ·refine aJ.aH aj 8 [0,1] (gE A n c ty B m d ty2 (lvals A) g) ?_ (i1 A n c ty B m d ty2 _) rfl fun g=> ?_
   ·rw[hYB,hAB,aP]
    exact⟨by omega,by omega,Nat.le_refl _,oneLs B,by omega,Nat.le_refl _,rfl,lab,by omega,hab,by rw[←lab];exact hq,trivial⟩
   ·rw[nil1];exact aJ.nil (hp g)
  ·refine aJ.aH aj 8 [0,1] (rE A n c ty B m d ty2 (lvals A) n g) ?_ (i1 A n c ty B m d ty2 _) rfl fun g=> ?_
   ·rw[hYB,hAB,aP]
    exact⟨by omega,by omega,Nat.le_refl _,roomLf _ hb,by omega,Nat.le_refl _,rfl,lab,by omega,hab,by rw[←lab];exact hq,trivial⟩
   ·rw[nil1];exact aJ.nil (hp g)
 | false=>
  rw[hq] at hp
  refine aJ.roomV 2 (n+m) (own:=true) (ty:=30) (s:=64) (vs:=lvals A) (lo:=n) rfl ?_ ?_
  ·refine aJ.aH aj 8 [0,1] (gP A n c ty B m d ty2 (lvals A) g) ?_ (i1 A n c ty B m d ty2 _) rfl fun g=> ?_
   ·rw[hYB,hAB,aP]
    exact⟨by omega,by omega,Nat.le_refl _,oneLs B,by omega,Nat.le_refl _,rfl,lab,by omega,hab,by rw[←lab];exact hq,by omega,trivial⟩
   ·rw[nil1];exact aJ.nil (hp g)
  ·refine aJ.aH aj 8 [0,1] (rP A n c ty B m d ty2 (lvals A) n g) ?_ (i1 A n c ty B m d ty2 _) rfl fun g=> ?_
   ·rw[hYB,hAB,aP]
    exact⟨by omega,by omega,Nat.le_refl _,roomLf _ hb,by omega,Nat.le_refl _,rfl,lab,by omega,hab,by rw[←lab];exact hq,by omega,trivial⟩
   ·rw[nil1];exact aJ.nil (hp g)
def MA (n:Nat) (m d:Nat):Nat→List (Option SV)
 | 0=>Mz n m d
 | i+1=>Ms n m d (i+1) ((i+1:Nat):Int)
def mA (A:List Lf) (n:Nat) (ty:TypeId) (B:List Lf) (ty2:TypeId) (vs:List Value):Nat→List Blk
 | 0=>m3 A n ty B ty2 vs
 | i+1=>m4 A n ty B ty2 vs (aD (labs (B.take (i+1)))) (i+1) none
theorem loop (H:Nd→Nd→B32) (hH:H=hV) (A:List Lf) (n c:Nat) (ty:TypeId) (B:List Lf) (m d:Nat) (ty2:TypeId) (vs:List Value) (hm:B.length=m) (hB:AllL B) (hb:m≤4000000) {Post:Ex→List SV→List Blk→Prop}
  (hz:m=0→∀g,Post (.exit 0) (fill g 0 (Dz n)) (m3 A n ty B ty2 vs )) (hp:0<m→∀g,Post (.exit 0) (fill g 0 (Ds n m)) (m4 A n ty B ty2 vs (aD (labs B)) m none)) (g:Nat→SV):
  aC Tryd.prog GT 2 (.loop L) (fill g 0 (Mz n m d)) (m3 A n ty B ty2 vs ) Post:=by
 refine Runs.bn (fun(i:Nat)=>MA n m d i) (fun i=>mA A n ty B ty2 vs i) (fun i=>i≤m) (fun i=>m-i) ?_ 0 (Nat.zero_le _) g
 rintro i g hi
 rcases Nat.lt_or_ge i m with h | h
 ·obtain⟨c1,c2⟩:=dst.ld_llab B (show i<B.length by omega)
  have hs:=labs_take (B:=B) (show i<B.length by omega)
  cases i with
  | zero=>
   refine Runs.aH aj mixed [0,1,2,4] (zy A n ty B m d ty2 vs _ g) ⟨decide_eq_true (by omega),by omega,by omega,c1,c2,rfl,by rw[bS];omega,by omega,roomL 1 (by omega),trivial⟩ (is A n ty B m d ty2 vs _ _ _ _ _) rfl fun g=> ?_
   refine⟨1,g,rfl,?_,by omega,by omega⟩
   show m4 A n ty B ty2 vs _ 1 none=m4 A n ty B ty2 vs (aD (labs (B.take 1))) 1 none
   rw[hs,show labs (B.take 0)=[] from rfl,List.nil_append,show aD [(B.getD 0 zl).lab]=bF (B.getD 0 zl).lab from List.append_nil _]
  | succ i=>
   have hl:(labs (B.take (i+1))).length=i+1:=by rw[labs_len,List.length_take];omega
   have hw:=wvals_len (labs (B.take (i+1)))
   have e:aD (labs (B.take (i+1+1)))=aD (labs (B.take (i+1)))++bF (B.getD (i+1) zl).lab:=by rw[hs,wvals_app,show aD [(B.getD (i+1) zl).lab]=bF (B.getD (i+1) zl).lab from List.append_nil _]
   have hw2:IntKind.i64.wrap (((i+1:Nat):Int)+1)=((i+1+1:Nat):Int):=by rw[IntKind.wrap_i64];omega
   show aC _ _ _ _ (fill g 0 (Ms n m d (i+1) ((i+1:Nat):Int))) (m4 A n ty B ty2 vs (aD (labs (B.take (i+1)))) (i+1) none) _
   refine Runs.roomV 3 (i+1+1) (own:=true) (ty:=24) (s:=32) (vs:=aD (labs (B.take (i+1)))) (lo:=i+1) rfl ?_ ?_
   ·refine Runs.aA aj mixed (sg A n ty B m d ty2 vs _ (i+1) _ ((i+1+1:Nat):Int) _ g) ⟨decide_eq_true (by omega),by omega,by omega,c1,c2,rfl,by rw[bS];omega,by omega,Nat.le_refl _,oneB _,hw2,trivial⟩ (is A n ty B m d ty2 vs _ _ _ _ _) rfl fun g=> ?_
    exact⟨i+1+1,g,rfl,by rw[←e];rfl,by omega,by omega⟩
   ·refine Runs.aH aj mixed [0,1,2,5] (sr A n ty B m d ty2 vs _ (i+1) _ ((i+1+1:Nat):Int) _ (i+1) g) ⟨decide_eq_true (by omega),by omega,by omega,c1,c2,rfl,by rw[bS];omega,by omega,Nat.le_refl _,roomL _ (by omega),hw2,trivial⟩ (is A n ty B m d ty2 vs _ _ _ _ _) rfl fun g=> ?_
    exact⟨i+1+1,g,rfl,by rw[←e];rfl,by omega,by omega⟩
 ·obtain rfl:i=m:=by omega
  cases i with
  | zero=>exact Runs.aA aj mixed (oz A n ty B 0 d ty2 vs g) ⟨decide_eq_false (by omega),trivial⟩ (iDz A n ty B ty2 vs) rfl fun g=>hz rfl g
  | succ i=>
   have ht:B.take (i+1)=B:=List.take_of_length_le (by omega)
   refine Runs.aA aj mixed (os A n ty B (i+1) d ty2 vs _ _ _ _ _ g) ⟨decide_eq_false (by omega),trivial⟩ (iDs A n ty B ty2 vs _ _ _ _) rfl fun g=> ?_
   rw[ht]
   exact hp (by omega) g
theorem run (H:Nd→Nd→B32) (hH:H=hV) (A:List Lf) (n c:Nat) (ty:TypeId) (B:List Lf) (m d:Nat) (ty2:TypeId) (hn:A.length=n) (hc:n≤c) (hA:AllL A) (hm:B.length=m) (hd:m≤d) (hB:AllL B) (hb:n+m≤4000000) (h0:0<n):aC Tryd.prog GT 2 body (aI fn [.o (.a (.sld 0 0 0 n c)),.o (.a (.sld 1 0 0 m d))]) [⟨false,ty,.prv (lvals A)⟩,⟨false,ty2,.prv (lvals B)⟩] (aF tys fn (fun r mm=>Qr 2 (rndD (A++B) (A++B).length) (stR H A B) r mm)):=by
 have hYA:((lvals A).drop (0+0)).take (n*64)=lvals A:=dtl hn
 have la:(lvals A).length=n*64:=by rw[←hn];exact aU A
 have hYB:((lvals B).drop (0+0)).take (m*64)=lvals B:=dtl hm
 have lb:(lvals B).length=m*64:=by rw[←hm];exact aU B
 have hab:AllL (A++B):=hA.app hB
 have eE:=lope.lfDec0
 refine Runs.aW aj mixed 1 (s0 A n c ty B m d ty2) trivial (i0 A n c ty B m d ty2) rfl fun g=> ?_
 rw[suf_1]
 refine Runs.seq (reg H hH A n c ty B m d ty2 hn hc hA hm hd hB hb h0 (fun g=> ?_) g)
 show aC _ _ _ _ _ _ _
 have hne:=fun h=>st_ne (H:=H) (fun a b=>by rw[hH];exact hV_ok a b) hA hB (by omega) h
 have hdl:=fun h=>dup_left hA hB h
 cases hq:rndD (A++B) (A++B).length with
 | true=>exact Runs.seq (Runs.aA aj mixed (tE A n c ty B m d ty2 g) trivial (iN A ty B ty2 _) rfl fun g=>aF.ret (zn A ty B ty2 _ g) (.inl ⟨rfl,rfl⟩))
 | false=>
  refine Runs.seq (Runs.aA aj mixed (tO A n c ty B m d ty2 g) trivial (i0 A n c ty B m d ty2) rfl fun g=> ?_)
  show aC _ _ _ _ _ _ _
  have hne:=hne hq
  have hdA:=hdl hq
  have hR:=rndA_len A A.length
  have hkr:=rnd_nok hA A.length (Nat.le_refl _)
  have hAp:=(ap_iff hkr).2 (rnd_ap hA hdA)
  have q:=r4 A n c ty B m d ty2 g
  rw[hYA,aP] at q
  unfold stR at hne ⊢
  rw[hn] at hdA hR hkr hAp hne ⊢
  have dV:((ah (rndA A n)).drop (0+0)).take (n*65)=ah (rndA A n):=dtn hR
  have lz:(ah (rndA A n)).length=n*65:=by rw[aV,hR]
  refine Runs.of_outNP aj mixed 2 [0,1,2] q ⟨by omega,hc,rfl,hn,by omega,hA,hdA,h0,trivial⟩ (i3 A n ty B m d ty2 _) (by kernel_rfl) fun g=> ?_
  generalize rndA A n=V at*
  rw[suf_4]
  refine Runs.seq (Runs.seq (Runs.aA aj mixed (a6 A n ty B m d ty2 (ah V) g) trivial (iz A n ty B m d ty2 (ah V)) rfl fun g=> ?_))
  refine Runs.block ?_
  refine loop H hH A n c ty B m d ty2 (ah V) hm hB (by omega) (fun hm0 g=> ?_) (fun hm0 g=> ?_) g
  ·obtain rfl:B=[]:=List.eq_nil_of_length_eq_zero (by omega)
   show aC _ _ _ _ _ _ _
   have q:=fz H hH A n ty [] ty2 (ah V) g
   rw[dV,aO] at q
   refine Runs.aH aj mixed [0,1,3] q ⟨by omega,Nat.le_refl _,rfl,hR,h0,by omega,hkr,hAp,trivial⟩ (iR A ty [] ty2 _ _) rfl fun g=>aF.ret (zr A ty [] ty2 _ _ g) (.inr (.inr ⟨rfl,hne,2,rfl,rfl⟩))
  ·show aC _ _ _ _ _ _ _
   have ll:(labs B).length=m:=by rw[labs_len,hm]
   have lw:(aD (labs B)).length=m*32:=by rw[wvals_len,ll]
   have dW:((aD (labs B)).drop (0+0)).take (m*32)=aD (labs B):=dtb ll
   have q:=fs H hH A n ty B ty2 (ah V) (aD (labs B)) m g
   rw[dV,dW,aO,bvDec_vals] at q
   exact Runs.aH aj mixed [0,1,4] q ⟨by omega,Nat.le_refl _,by omega,Nat.le_refl _,rfl,hR,by omega,hkr,hAp,rfl,ll,by omega,labs_ok hB,hne,trivial⟩ (iR A ty B ty2 _ _) rfl fun g=>aF.ret (zr A ty B ty2 _ _ g) (.inr (.inr ⟨rfl,hne,2,rfl,rfl⟩))
end pw
namespace pn
theorem reg (H:Nd→Nd→B32) (hH:H=hV) (A:List Lf) (n c:Nat) (ty:TypeId) (b:Option Addr) (hn:A.length=n) (hc:n≤c) (hA:AllL A) (hb:n≤4000000) (h0:0<n) {Post:Ex→List SV→List Blk→Prop} (hp:∀g,Post .normal (fill g 0 (M1 n c b (!rndD (A++[]) (A++[]).length))) (m0 A ty)) (g:Nat→SV):
  aC Tryd.prog GT 1 (.region rst.i1 (opsOf R1) false) (fill g 0 (M0 n c b)) (m0 A ty) Post:=by
 have hYA:((lvals A).drop (0+0)).take (n*64)=lvals A:=dtl hn
 have la:(lvals A).length=n*64:=by rw[←hn];exact aU A
 have hB:AllL []:=fun x hx=>by cases hx
 have hab:AllL (A++[]):=hA.app hB
 have eE:=lope.lfDec0
 refine Runs.region ?_
 refine aJ.aH aj 3 [0,2] (c1 A n c ty b g) ⟨by omega,h0,roomLf n (by omega),trivial⟩ (iP A n c ty b _ _ _) rfl fun g=> ?_
 rw[hYA]
 have hAB:((lvals A++([]:List Value)).drop (0+0)).take ((n+0)*64)=lvals (A++[]):=by rw[List.append_nil,List.append_nil];exact dtl (by omega)
 have lAB:(lvals A++([]:List Value)).length=(n+0)*64:=by rw[List.append_nil,la,Nat.add_zero]
 have lab:(A++[]).length=n+0:=by rw[List.append_nil,hn];omega
 cases hq:rndD (A++[]) (A++[]).length with
 | true=>
  rw[hq] at hp
  refine aJ.aH aj 8 [0] (gE A n c ty b (lvals A) g) ?_ (i1 A n c ty b _) rfl fun g=> ?_
  ·rw[hAB,aP]
   exact⟨by omega,Nat.le_refl _,fun v hv=>(by cases hv),by omega,Nat.le_refl _,rfl,lab,by omega,hab,by rw[←lab];exact hq,trivial⟩
  ·rw[nil1];exact aJ.nil (hp g)
 | false=>
  rw[hq] at hp
  refine aJ.aH aj 8 [0] (gP A n c ty b (lvals A) g) ?_ (i1 A n c ty b _) rfl fun g=> ?_
  ·rw[hAB,aP]
   exact⟨by omega,Nat.le_refl _,fun v hv=>(by cases hv),by omega,Nat.le_refl _,rfl,lab,by omega,hab,by rw[←lab];exact hq,by omega,trivial⟩
  ·rw[nil1];exact aJ.nil (hp g)
theorem run (H:Nd→Nd→B32) (hH:H=hV) (A:List Lf) (n c:Nat) (ty:TypeId) (b:Option Addr) (hn:A.length=n) (hc:n≤c) (hA:AllL A) (hb:n≤4000000) (h0:0<n):aC Tryd.prog GT 1 body (aI fn [.o (.a (.sld 0 0 0 n c)),.o (.a (.v (.slice b 0 0)))]) [⟨false,ty,.prv (lvals A)⟩] (aF tys fn (fun r mm=>Qr 1 (rndD (A++[]) (A++[]).length) (stR H A []) r mm)):=by
 have hYA:((lvals A).drop (0+0)).take (n*64)=lvals A:=dtl hn
 have la:(lvals A).length=n*64:=by rw[←hn];exact aU A
 have hB:AllL []:=fun x hx=>by cases hx
 have hab:AllL (A++[]):=hA.app hB
 have eE:=lope.lfDec0
 refine Runs.aW aj mixed 1 (s0 A n c ty b) trivial (i0 A n c ty b) rfl fun g=> ?_
 rw[suf_1]
 refine Runs.seq (reg H hH A n c ty b hn hc hA hb h0 (fun g=> ?_) g)
 show aC _ _ _ _ _ _ _
 have hne:=fun h=>st_ne (H:=H) (fun a b=>by rw[hH];exact hV_ok a b) hA hB (by omega) h
 have hdl:=fun h=>dup_left hA hB h
 cases hq:rndD (A++[]) (A++[]).length with
 | true=>exact Runs.seq (Runs.aA aj mixed (tE A n c ty b g) trivial (iN A ty _) rfl fun g=>aF.ret (zn A ty _ g) (.inl ⟨rfl,rfl⟩))
 | false=>
  refine Runs.seq (Runs.aA aj mixed (tO A n c ty b g) trivial (i0 A n c ty b) rfl fun g=> ?_)
  show aC _ _ _ _ _ _ _
  have hne:=hne hq
  have hdA:=hdl hq
  have hR:=rndA_len A A.length
  have hkr:=rnd_nok hA A.length (Nat.le_refl _)
  have hAp:=(ap_iff hkr).2 (rnd_ap hA hdA)
  have q:=r4 A n c ty b g
  rw[hYA,aP] at q
  unfold stR at hne ⊢
  rw[hn] at hdA hR hkr hAp hne ⊢
  have dV:((ah (rndA A n)).drop (0+0)).take (n*65)=ah (rndA A n):=dtn hR
  have lz:(ah (rndA A n)).length=n*65:=by rw[aV,hR]
  refine Runs.of_outNP aj mixed 2 [0,1] q ⟨by omega,hc,rfl,hn,by omega,hA,hdA,h0,trivial⟩ (i3 A n ty b _) (by kernel_rfl) fun g=> ?_
  generalize rndA A n=V at*
  rw[suf_4]
  refine Runs.seq (Runs.seq (Runs.aA aj mixed (a6 A n ty b (ah V) g) trivial (iz A n ty b (ah V)) rfl fun g=> ?_))
  refine Runs.block ?_
  refine Runs.bn (fun(_:Unit)=>Mz n b) (fun _=>m3 A n ty (ah V)) (fun _=>True) (fun _=>0) ?_ () trivial g
  rintro _ g _
  refine Runs.aA aj mixed (oz A n ty b _ g) trivial (iDz A n ty _) rfl fun g=> ?_
  show aC _ _ _ _ _ _ _
  have q:=fz H hH A n ty (ah V) g
  rw[dV,aO] at q
  refine Runs.aH aj mixed [0,2] q ⟨by omega,Nat.le_refl _,rfl,hR,h0,by omega,hkr,hAp,trivial⟩ (iR A ty _ _) rfl fun g=>aF.ret (zr A ty _ _ g) (.inr (.inr ⟨rfl,hne,1,rfl,rfl⟩))
end pn
namespace zw
theorem reg (H:Nd→Nd→B32) (hH:H=hV) (A:List Lf) (n c:Nat) (ty:TypeId) (B:List Lf) (m d:Nat) (ty2:TypeId) (hn:A.length=n) (hc:n≤c) (hA:AllL A) (hm:B.length=m) (hd:m≤d) (hB:AllL B) (hb:n+m≤4000000) (h0:n=0) {Post:Ex→List SV→List Blk→Prop} (hp:∀g,Post .normal (fill g 0 (M1 n c m d (!rndD (A++B) (A++B).length))) (m0 A ty B ty2)) (g:Nat→SV):
  aC Tryd.prog GT 2 (.region rst.i1 (opsOf R1) false) (fill g 0 (M0 n c m d)) (m0 A ty B ty2) Post:=by
 have hYA:((lvals A).drop (0+0)).take (n*64)=lvals A:=dtl hn
 have la:(lvals A).length=n*64:=by rw[←hn];exact aU A
 have hYB:((lvals B).drop (0+0)).take (m*64)=lvals B:=dtl hm
 have lb:(lvals B).length=m*64:=by rw[←hm];exact aU B
 have hab:AllL (A++B):=hA.app hB
 have eE:=lope.lfDec0
 refine Runs.region ?_
 obtain rfl:A=[]:=List.eq_nil_of_length_eq_zero (by omega)
 rcases Nat.eq_zero_or_pos m with h1 | h1
 ·obtain rfl:B=[]:=List.eq_nil_of_length_eq_zero (by omega)
  refine aJ.aH aj 11 [0,1] (cZ [] n c ty [] m d ty2 g) ?_ (i1 [] n c ty [] m d ty2 _) rfl fun g=> ?_
  ·rw[eE]
   exact⟨by omega,h0,by omega,h1,by omega,Nat.le_refl _,rfl,rfl,rfl,trivial⟩
  ·rw[nil0];exact aJ.nil (hp g)
 ·rw[List.nil_append] at hp hab
  cases hq:rndD B B.length with
  | true=>
   rw[hq] at hp
   refine aJ.aH aj 11 [0,1] (cE [] n c ty B m d ty2 g) ?_ (i1 [] n c ty B m d ty2 _) rfl fun g=> ?_
   ·rw[hYB,hYB,aP]
    exact⟨by omega,h0,by omega,h1,roomLf m (by omega),by omega,Nat.le_refl _,rfl,hm,by omega,hB,by rw[←hm];exact hq,trivial⟩
   ·rw[nil0];exact aJ.nil (hp g)
  | false=>
   rw[hq] at hp
   refine aJ.aH aj 11 [0,1] (cP [] n c ty B m d ty2 g) ?_ (i1 [] n c ty B m d ty2 _) rfl fun g=> ?_
   ·rw[hYB,hYB,aP]
    exact⟨by omega,h0,by omega,h1,roomLf m (by omega),by omega,Nat.le_refl _,rfl,hm,by omega,hB,by rw[←hm];exact hq,h1,trivial⟩
   ·rw[nil0];exact aJ.nil (hp g)
def MA (m d:Nat):Nat→List (Option SV)
 | 0=>Mz m d
 | i+1=>Ms m d (i+1) ((i+1:Nat):Int)
def mA (A:List Lf) (ty:TypeId) (B:List Lf) (ty2:TypeId):Nat→List Blk
 | 0=>m3 A ty B ty2
 | i+1=>m4 A ty B ty2 (aD (labs (B.take (i+1)))) (i+1) none
theorem loop (H:Nd→Nd→B32) (hH:H=hV) (A:List Lf) (n c:Nat) (ty:TypeId) (B:List Lf) (m d:Nat) (ty2:TypeId) (hm:B.length=m) (hB:AllL B) (hb:m≤4000000) {Post:Ex→List SV→List Blk→Prop}
  (hz:m=0→∀g,Post (.exit 0) (fill g 0 (Dz)) (m3 A ty B ty2 )) (hp:0<m→∀g,Post (.exit 0) (fill g 0 (Ds m)) (m4 A ty B ty2 (aD (labs B)) m none)) (g:Nat→SV):
  aC Tryd.prog GT 2 (.loop L) (fill g 0 (Mz m d)) (m3 A ty B ty2 ) Post:=by
 refine Runs.bn (fun(i:Nat)=>MA m d i) (fun i=>mA A ty B ty2 i) (fun i=>i≤m) (fun i=>m-i) ?_ 0 (Nat.zero_le _) g
 rintro i g hi
 rcases Nat.lt_or_ge i m with h | h
 ·obtain⟨c1,c2⟩:=dst.ld_llab B (show i<B.length by omega)
  have hs:=labs_take (B:=B) (show i<B.length by omega)
  cases i with
  | zero=>
   refine Runs.aH aj mixed [0,1,3] (zy A ty B m d ty2 _ g) ⟨decide_eq_true (by omega),by omega,by omega,c1,c2,rfl,by rw[bS];omega,by omega,roomL 1 (by omega),trivial⟩ (is A ty B m d ty2 _ _ _ _ _) rfl fun g=> ?_
   refine⟨1,g,rfl,?_,by omega,by omega⟩
   show m4 A ty B ty2 _ 1 none=m4 A ty B ty2 (aD (labs (B.take 1))) 1 none
   rw[hs,show labs (B.take 0)=[] from rfl,List.nil_append,show aD [(B.getD 0 zl).lab]=bF (B.getD 0 zl).lab from List.append_nil _]
  | succ i=>
   have hl:(labs (B.take (i+1))).length=i+1:=by rw[labs_len,List.length_take];omega
   have hw:=wvals_len (labs (B.take (i+1)))
   have e:aD (labs (B.take (i+1+1)))=aD (labs (B.take (i+1)))++bF (B.getD (i+1) zl).lab:=by rw[hs,wvals_app,show aD [(B.getD (i+1) zl).lab]=bF (B.getD (i+1) zl).lab from List.append_nil _]
   have hw2:IntKind.i64.wrap (((i+1:Nat):Int)+1)=((i+1+1:Nat):Int):=by rw[IntKind.wrap_i64];omega
   show aC _ _ _ _ (fill g 0 (Ms m d (i+1) ((i+1:Nat):Int))) (m4 A ty B ty2 (aD (labs (B.take (i+1)))) (i+1) none) _
   refine Runs.roomV 2 (i+1+1) (own:=true) (ty:=24) (s:=32) (vs:=aD (labs (B.take (i+1)))) (lo:=i+1) rfl ?_ ?_
   ·refine Runs.aA aj mixed (sg A n ty B m d ty2 _ (i+1) _ ((i+1+1:Nat):Int) _ g) ⟨decide_eq_true (by omega),by omega,by omega,c1,c2,rfl,by rw[bS];omega,by omega,Nat.le_refl _,oneB _,hw2,trivial⟩ (is A ty B m d ty2 _ _ _ _ _) rfl fun g=> ?_
    exact⟨i+1+1,g,rfl,by rw[←e];rfl,by omega,by omega⟩
   ·refine Runs.aH aj mixed [0,1,4] (sr A n ty B m d ty2 _ (i+1) _ ((i+1+1:Nat):Int) _ (i+1) g) ⟨decide_eq_true (by omega),by omega,by omega,c1,c2,rfl,by rw[bS];omega,by omega,Nat.le_refl _,roomL _ (by omega),hw2,trivial⟩ (is A ty B m d ty2 _ _ _ _ _) rfl fun g=> ?_
    exact⟨i+1+1,g,rfl,by rw[←e];rfl,by omega,by omega⟩
 ·obtain rfl:i=m:=by omega
  cases i with
  | zero=>exact Runs.aA aj mixed (oz A ty B 0 d ty2 g) ⟨decide_eq_false (by omega),trivial⟩ (iDz A ty B ty2 ) rfl fun g=>hz rfl g
  | succ i=>
   have ht:B.take (i+1)=B:=List.take_of_length_le (by omega)
   refine Runs.aA aj mixed (os A ty B (i+1) d ty2 _ _ _ _ _ g) ⟨decide_eq_false (by omega),trivial⟩ (iDs A ty B ty2 _ _ _ _) rfl fun g=> ?_
   rw[ht]
   exact hp (by omega) g
theorem run (H:Nd→Nd→B32) (hH:H=hV) (A:List Lf) (n c:Nat) (ty:TypeId) (B:List Lf) (m d:Nat) (ty2:TypeId) (hn:A.length=n) (hc:n≤c) (hA:AllL A) (hm:B.length=m) (hd:m≤d) (hB:AllL B) (hb:n+m≤4000000) (h0:n=0):aC Tryd.prog GT 2 body (aI fn [.o (.a (.sld 0 0 0 n c)),.o (.a (.sld 1 0 0 m d))]) [⟨false,ty,.prv (lvals A)⟩,⟨false,ty2,.prv (lvals B)⟩] (aF tys fn (fun r mm=>Qr 2 (rndD (A++B) (A++B).length) (stR H A B) r mm)):=by
 have hYA:((lvals A).drop (0+0)).take (n*64)=lvals A:=dtl hn
 have la:(lvals A).length=n*64:=by rw[←hn];exact aU A
 have hYB:((lvals B).drop (0+0)).take (m*64)=lvals B:=dtl hm
 have lb:(lvals B).length=m*64:=by rw[←hm];exact aU B
 have hab:AllL (A++B):=hA.app hB
 have eE:=lope.lfDec0
 refine Runs.aW aj mixed 1 (s0 A n c ty B m d ty2) trivial (i0 A n c ty B m d ty2) rfl fun g=> ?_
 rw[suf_1]
 refine Runs.seq (reg H hH A n c ty B m d ty2 hn hc hA hm hd hB hb h0 (fun g=> ?_) g)
 show aC _ _ _ _ _ _ _
 cases hq:rndD (A++B) (A++B).length with
 | true=>exact Runs.seq (Runs.aA aj mixed (tE A n c ty B m d ty2 g) trivial (iN A ty B ty2 _) rfl fun g=>aF.ret (zn A ty B ty2 _ g) (.inl ⟨rfl,rfl⟩))
 | false=>
  refine Runs.seq (Runs.aA aj mixed (tO A n c ty B m d ty2 g) trivial (i0 A n c ty B m d ty2) rfl fun g=> ?_)
  show aC _ _ _ _ _ _ _
  refine Runs.aW aj mixed 2 (r4 A n c ty B m d ty2 g) ⟨by omega,hc,by rw[hYA,aP],by rw[hYA,aP];exact hn,h0,trivial⟩ (i3 A ty B m d ty2) (by kernel_rfl) fun g=> ?_
  rw[suf_4]
  refine Runs.seq (Runs.seq (Runs.aA aj mixed (a6 A ty B m d ty2 g) trivial (iz A ty B m d ty2 ) rfl fun g=> ?_))
  refine Runs.block ?_
  obtain rfl:A=[]:=List.eq_nil_of_length_eq_zero (by omega)
  have hS:stR H [] B=[]:=witV_nil H false _
  refine loop H hH [] n c ty B m d ty2 hm hB (by omega) (fun hm0 g=> ?_) (fun hm0 g=> ?_) g
  ·show aC _ _ _ _ _ _ _
   exact Runs.aA aj mixed (fz [] ty B ty2 g) trivial (iN [] ty B ty2 _) rfl fun g=>aF.ret (zn [] ty B ty2 _ g) (.inr (.inl ⟨rfl,hS,rfl⟩))
  ·show aC _ _ _ _ _ _ _
   exact Runs.aH aj mixed [0,1] (fs [] ty B ty2 _ _ g) ⟨by rw[wvals_len,labs_len,hm];omega,Nat.le_refl _,trivial⟩ (iN [] ty B ty2 _) rfl fun g=>aF.ret (zn [] ty B ty2 _ g) (.inr (.inl ⟨rfl,hS,rfl⟩))
end zw
namespace zn
theorem reg (H:Nd→Nd→B32) (hH:H=hV) (A:List Lf) (n c:Nat) (ty:TypeId) (b:Option Addr) (hn:A.length=n) (hc:n≤c) (hA:AllL A) (hb:n≤4000000) (h0:n=0) {Post:Ex→List SV→List Blk→Prop} (hp:∀g,Post .normal (fill g 0 (M1 n c b (!rndD (A++[]) (A++[]).length))) (m0 A ty)) (g:Nat→SV):
  aC Tryd.prog GT 1 (.region rst.i1 (opsOf R1) false) (fill g 0 (M0 n c b)) (m0 A ty) Post:=by
 have hYA:((lvals A).drop (0+0)).take (n*64)=lvals A:=dtl hn
 have la:(lvals A).length=n*64:=by rw[←hn];exact aU A
 have hB:AllL []:=fun x hx=>by cases hx
 have hab:AllL (A++[]):=hA.app hB
 have eE:=lope.lfDec0
 refine Runs.region ?_
 obtain rfl:A=[]:=List.eq_nil_of_length_eq_zero (by omega)
 refine aJ.aH aj 11 [0] (cZ [] n c ty b g) ?_ (i1 [] n c ty b _) rfl fun g=> ?_
 ·rw[eE]
  exact⟨by omega,h0,rfl,by omega,Nat.le_refl _,rfl,rfl,rfl,trivial⟩
 ·rw[nil0];exact aJ.nil (hp g)
theorem run (H:Nd→Nd→B32) (hH:H=hV) (A:List Lf) (n c:Nat) (ty:TypeId) (b:Option Addr) (hn:A.length=n) (hc:n≤c) (hA:AllL A) (hb:n≤4000000) (h0:n=0):aC Tryd.prog GT 1 body (aI fn [.o (.a (.sld 0 0 0 n c)),.o (.a (.v (.slice b 0 0)))]) [⟨false,ty,.prv (lvals A)⟩] (aF tys fn (fun r mm=>Qr 1 (rndD (A++[]) (A++[]).length) (stR H A []) r mm)):=by
 have hYA:((lvals A).drop (0+0)).take (n*64)=lvals A:=dtl hn
 have la:(lvals A).length=n*64:=by rw[←hn];exact aU A
 have hB:AllL []:=fun x hx=>by cases hx
 have hab:AllL (A++[]):=hA.app hB
 have eE:=lope.lfDec0
 refine Runs.aW aj mixed 1 (s0 A n c ty b) trivial (i0 A n c ty b) rfl fun g=> ?_
 rw[suf_1]
 refine Runs.seq (reg H hH A n c ty b hn hc hA hb h0 (fun g=> ?_) g)
 show aC _ _ _ _ _ _ _
 cases hq:rndD (A++[]) (A++[]).length with
 | true=>exact Runs.seq (Runs.aA aj mixed (tE A n c ty b g) trivial (iN A ty _) rfl fun g=>aF.ret (zn A ty _ g) (.inl ⟨rfl,rfl⟩))
 | false=>
  refine Runs.seq (Runs.aA aj mixed (tO A n c ty b g) trivial (i0 A n c ty b) rfl fun g=> ?_)
  show aC _ _ _ _ _ _ _
  refine Runs.aW aj mixed 2 (r4 A n c ty b g) ⟨by omega,hc,by rw[hYA,aP],by rw[hYA,aP];exact hn,h0,trivial⟩ (i3 A ty b) (by kernel_rfl) fun g=> ?_
  rw[suf_4]
  refine Runs.seq (Runs.seq (Runs.aA aj mixed (a6 A ty b g) trivial (iz A ty b ) rfl fun g=> ?_))
  refine Runs.block ?_
  obtain rfl:A=[]:=List.eq_nil_of_length_eq_zero (by omega)
  have hS:stR H [] []=[]:=witV_nil H false _
  refine Runs.bn (fun(_:Unit)=>Mz b) (fun _=>m3 [] ty) (fun _=>True) (fun _=>0) ?_ () trivial g
  rintro _ g _
  refine Runs.aA aj mixed (oz [] ty b g) trivial (iDz [] ty) rfl fun g=> ?_
  show aC _ _ _ _ _ _ _
  exact Runs.aA aj mixed (fz [] ty g) trivial (iN [] ty _) rfl fun g=>aF.ret (zn [] ty _ g) (.inr (.inl ⟨rfl,hS,rfl⟩))
end zn
namespace nw
theorem reg (H:Nd→Nd→B32) (hH:H=hV) (a:Option Addr) (B:List Lf) (m d:Nat) (ty2:TypeId) (hm:B.length=m) (hd:m≤d) (hB:AllL B) (hb:m≤4000000) {Post:Ex→List SV→List Blk→Prop} (hp:∀g,Post .normal (fill g 0 (M1 a m d (!rndD (([]:List Lf)++B) (([]:List Lf)++B).length))) (m0 B ty2)) (g:Nat→SV):
  aC Tryd.prog GT 1 (.region rst.i1 (opsOf R1) false) (fill g 0 (M0 a m d)) (m0 B ty2) Post:=by
 have hA:AllL []:=fun x hx=>by cases hx
 have hYB:((lvals B).drop (0+0)).take (m*64)=lvals B:=dtl hm
 have lb:(lvals B).length=m*64:=by rw[←hm];exact aU B
 have hab:AllL (([]:List Lf)++B):=hA.app hB
 have eE:=lope.lfDec0
 refine Runs.region ?_
 rcases Nat.eq_zero_or_pos m with h1 | h1
 ·obtain rfl:B=[]:=List.eq_nil_of_length_eq_zero (by omega)
  refine aJ.aH aj 11 [0] (cZ a [] m d ty2 g) ?_ (i1 a [] m d ty2 _) rfl fun g=> ?_
  ·rw[eE]
   exact⟨rfl,by omega,h1,by omega,Nat.le_refl _,rfl,rfl,rfl,trivial⟩
  ·rw[nil0];exact aJ.nil (hp g)
 ·rw[List.nil_append] at hp hab
  cases hq:rndD B B.length with
  | true=>
   rw[hq] at hp
   refine aJ.aH aj 11 [0] (cE a B m d ty2 g) ?_ (i1 a B m d ty2 _) rfl fun g=> ?_
   ·rw[hYB,hYB,aP]
    exact⟨rfl,by omega,h1,roomLf m (by omega),by omega,Nat.le_refl _,rfl,hm,by omega,hB,by rw[←hm];exact hq,trivial⟩
   ·rw[nil0];exact aJ.nil (hp g)
  | false=>
   rw[hq] at hp
   refine aJ.aH aj 11 [0] (cP a B m d ty2 g) ?_ (i1 a B m d ty2 _) rfl fun g=> ?_
   ·rw[hYB,hYB,aP]
    exact⟨rfl,by omega,h1,roomLf m (by omega),by omega,Nat.le_refl _,rfl,hm,by omega,hB,by rw[←hm];exact hq,h1,trivial⟩
   ·rw[nil0];exact aJ.nil (hp g)
def MA (a:Option Addr) (m d:Nat):Nat→List (Option SV)
 | 0=>Mz a m d
 | i+1=>Ms a m d (i+1) ((i+1:Nat):Int)
def mA (B:List Lf) (ty2:TypeId):Nat→List Blk
 | 0=>m3 B ty2
 | i+1=>m4 B ty2 (aD (labs (B.take (i+1)))) (i+1) none
theorem loop (H:Nd→Nd→B32) (hH:H=hV) (a:Option Addr) (B:List Lf) (m d:Nat) (ty2:TypeId) (hm:B.length=m) (hB:AllL B) (hb:m≤4000000) {Post:Ex→List SV→List Blk→Prop}
  (hz:m=0→∀g,Post (.exit 0) (fill g 0 (Dz a)) (m3 B ty2 )) (hp:0<m→∀g,Post (.exit 0) (fill g 0 (Ds a m)) (m4 B ty2 (aD (labs B)) m none)) (g:Nat→SV):
  aC Tryd.prog GT 1 (.loop L) (fill g 0 (Mz a m d)) (m3 B ty2 ) Post:=by
 refine Runs.bn (fun(i:Nat)=>MA a m d i) (fun i=>mA B ty2 i) (fun i=>i≤m) (fun i=>m-i) ?_ 0 (Nat.zero_le _) g
 rintro i g hi
 rcases Nat.lt_or_ge i m with h | h
 ·obtain⟨c1,c2⟩:=dst.ld_llab B (show i<B.length by omega)
  have hs:=labs_take (B:=B) (show i<B.length by omega)
  cases i with
  | zero=>
   refine Runs.aH aj mixed [0,2] (zy a B m d ty2 _ g) ⟨decide_eq_true (by omega),by omega,by omega,c1,c2,rfl,by rw[bS];omega,by omega,roomL 1 (by omega),trivial⟩ (is a B m d ty2 _ _ _ _ _) rfl fun g=> ?_
   refine⟨1,g,rfl,?_,by omega,by omega⟩
   show m4 B ty2 _ 1 none=m4 B ty2 (aD (labs (B.take 1))) 1 none
   rw[hs,show labs (B.take 0)=[] from rfl,List.nil_append,show aD [(B.getD 0 zl).lab]=bF (B.getD 0 zl).lab from List.append_nil _]
  | succ i=>
   have hl:(labs (B.take (i+1))).length=i+1:=by rw[labs_len,List.length_take];omega
   have hw:=wvals_len (labs (B.take (i+1)))
   have e:aD (labs (B.take (i+1+1)))=aD (labs (B.take (i+1)))++bF (B.getD (i+1) zl).lab:=by rw[hs,wvals_app,show aD [(B.getD (i+1) zl).lab]=bF (B.getD (i+1) zl).lab from List.append_nil _]
   have hw2:IntKind.i64.wrap (((i+1:Nat):Int)+1)=((i+1+1:Nat):Int):=by rw[IntKind.wrap_i64];omega
   show aC _ _ _ _ (fill g 0 (Ms a m d (i+1) ((i+1:Nat):Int))) (m4 B ty2 (aD (labs (B.take (i+1)))) (i+1) none) _
   refine Runs.roomV 1 (i+1+1) (own:=true) (ty:=24) (s:=32) (vs:=aD (labs (B.take (i+1)))) (lo:=i+1) rfl ?_ ?_
   ·refine Runs.aA aj mixed (sg a B m d ty2 _ (i+1) _ ((i+1+1:Nat):Int) _ g) ⟨decide_eq_true (by omega),by omega,by omega,c1,c2,rfl,by rw[bS];omega,by omega,Nat.le_refl _,oneB _,hw2,trivial⟩ (is a B m d ty2 _ _ _ _ _) rfl fun g=> ?_
    exact⟨i+1+1,g,rfl,by rw[←e];rfl,by omega,by omega⟩
   ·refine Runs.aH aj mixed [0,3] (sr a B m d ty2 _ (i+1) _ ((i+1+1:Nat):Int) _ (i+1) g) ⟨decide_eq_true (by omega),by omega,by omega,c1,c2,rfl,by rw[bS];omega,by omega,Nat.le_refl _,roomL _ (by omega),hw2,trivial⟩ (is a B m d ty2 _ _ _ _ _) rfl fun g=> ?_
    exact⟨i+1+1,g,rfl,by rw[←e];rfl,by omega,by omega⟩
 ·obtain rfl:i=m:=by omega
  cases i with
  | zero=>exact Runs.aA aj mixed (oz a B 0 d ty2 g) ⟨decide_eq_false (by omega),trivial⟩ (iDz a B ty2 ) rfl fun g=>hz rfl g
  | succ i=>
   have ht:B.take (i+1)=B:=List.take_of_length_le (by omega)
   refine Runs.aA aj mixed (os a B (i+1) d ty2 _ _ _ _ _ g) ⟨decide_eq_false (by omega),trivial⟩ (iDs a B ty2 _ _ _ _) rfl fun g=> ?_
   rw[ht]
   exact hp (by omega) g
theorem run (H:Nd→Nd→B32) (hH:H=hV) (a:Option Addr) (B:List Lf) (m d:Nat) (ty2:TypeId) (hm:B.length=m) (hd:m≤d) (hB:AllL B) (hb:m≤4000000):aC Tryd.prog GT 1 body (aI fn [.o (.a (.v (.slice a 0 0))),.o (.a (.sld 0 0 0 m d))]) [⟨false,ty2,.prv (lvals B)⟩] (aF tys fn (fun r mm=>Qr 1 (rndD (([]:List Lf)++B) (([]:List Lf)++B).length) (stR H [] B) r mm)):=by
 have hA:AllL []:=fun x hx=>by cases hx
 have hYB:((lvals B).drop (0+0)).take (m*64)=lvals B:=dtl hm
 have lb:(lvals B).length=m*64:=by rw[←hm];exact aU B
 have hab:AllL (([]:List Lf)++B):=hA.app hB
 have eE:=lope.lfDec0
 refine Runs.aW aj mixed 1 (s0 a B m d ty2) trivial (i0 a B m d ty2) rfl fun g=> ?_
 rw[suf_1]
 refine Runs.seq (reg H hH a B m d ty2 hm hd hB hb (fun g=> ?_) g)
 show aC _ _ _ _ _ _ _
 cases hq:rndD (([]:List Lf)++B) (([]:List Lf)++B).length with
 | true=>exact Runs.seq (Runs.aA aj mixed (tE a B m d ty2 g) trivial (iN a B ty2 _) rfl fun g=>aF.ret (zn a B ty2 _ g) (.inl ⟨rfl,rfl⟩))
 | false=>
  refine Runs.seq (Runs.aA aj mixed (tO a B m d ty2 g) trivial (i0 a B m d ty2) rfl fun g=> ?_)
  show aC _ _ _ _ _ _ _
  refine Runs.aW aj mixed 2 (r4 a B m d ty2 g) trivial (i3 a B m d ty2) (by kernel_rfl) fun g=> ?_
  rw[suf_4]
  refine Runs.seq (Runs.seq (Runs.aA aj mixed (a6 a B m d ty2 g) trivial (iz a B m d ty2 ) rfl fun g=> ?_))
  refine Runs.block ?_
  have hS:stR H [] B=[]:=witV_nil H false _
  refine loop H hH a B m d ty2 hm hB (by omega) (fun hm0 g=> ?_) (fun hm0 g=> ?_) g
  ·show aC _ _ _ _ _ _ _
   exact Runs.aA aj mixed (fz a B ty2 g) trivial (iN a B ty2 _) rfl fun g=>aF.ret (zn a B ty2 _ g) (.inr (.inl ⟨rfl,hS,rfl⟩))
  ·show aC _ _ _ _ _ _ _
   exact Runs.aH aj mixed [0] (fs a B ty2 _ _ g) ⟨by rw[wvals_len,labs_len,hm];omega,Nat.le_refl _,trivial⟩ (iN a B ty2 _) rfl fun g=>aF.ret (zn a B ty2 _ g) (.inr (.inl ⟨rfl,hS,rfl⟩))
end nw
namespace nn
theorem reg (H:Nd→Nd→B32) (hH:H=hV) (a:Option Addr) (b:Option Addr) {Post:Ex→List SV→List Blk→Prop} (hp:∀g,Post .normal (fill g 0 (M1 a b (!rndD (([]:List Lf)++[]) (([]:List Lf)++[]).length))) (m0)) (g:Nat→SV):
  aC Tryd.prog GT 0 (.region rst.i1 (opsOf R1) false) (fill g 0 (M0 a b)) (m0) Post:=by
 have hA:AllL []:=fun x hx=>by cases hx
 have hB:AllL []:=fun x hx=>by cases hx
 have hab:AllL (([]:List Lf)++[]):=hA.app hB
 have eE:=lope.lfDec0
 refine Runs.region ?_
 refine aJ.aH aj 11 [] (cZ a b g) ?_ (i1 a b _) rfl fun g=> ?_
 ·rw[eE]
  exact⟨rfl,rfl,by omega,Nat.le_refl _,rfl,rfl,rfl,trivial⟩
 ·rw[nil0];exact aJ.nil (hp g)
theorem run (H:Nd→Nd→B32) (hH:H=hV) (a:Option Addr) (b:Option Addr):aC Tryd.prog GT 0 body (aI fn [.o (.a (.v (.slice a 0 0))),.o (.a (.v (.slice b 0 0)))]) [] (aF tys fn (fun r mm=>Qr 0 (rndD (([]:List Lf)++[]) (([]:List Lf)++[]).length) (stR H [] []) r mm)):=by
 have hA:AllL []:=fun x hx=>by cases hx
 have hB:AllL []:=fun x hx=>by cases hx
 have hab:AllL (([]:List Lf)++[]):=hA.app hB
 have eE:=lope.lfDec0
 refine Runs.aW aj mixed 1 (s0 a b) trivial (i0 a b) rfl fun g=> ?_
 rw[suf_1]
 refine Runs.seq (reg H hH a b (fun g=> ?_) g)
 show aC _ _ _ _ _ _ _
 cases hq:rndD (([]:List Lf)++[]) (([]:List Lf)++[]).length with
 | true=>exact Runs.seq (Runs.aA aj mixed (tE a b g) trivial (iN a _) rfl fun g=>aF.ret (zn a _ g) (.inl ⟨rfl,rfl⟩))
 | false=>
  refine Runs.seq (Runs.aA aj mixed (tO a b g) trivial (i0 a b) rfl fun g=> ?_)
  show aC _ _ _ _ _ _ _
  refine Runs.aW aj mixed 2 (r4 a b g) trivial (i3 a b) (by kernel_rfl) fun g=> ?_
  rw[suf_4]
  refine Runs.seq (Runs.seq (Runs.aA aj mixed (a6 a b g) trivial (iz a b ) rfl fun g=> ?_))
  refine Runs.block ?_
  have hS:stR H [] []=[]:=witV_nil H false _
  refine Runs.bn (fun(_:Unit)=>Mz a b) (fun _=>m3) (fun _=>True) (fun _=>0) ?_ () trivial g
  rintro _ g _
  refine Runs.aA aj mixed (oz a b g) trivial (iDz a) rfl fun g=> ?_
  show aC _ _ _ _ _ _ _
  exact Runs.aA aj mixed (fz a g) trivial (iN a _) rfl fun g=>aF.ret (zn a _ g) (.inr (.inl ⟨rfl,hS,rfl⟩))
end nn
noncomputable def specE (H:Nd→Nd→B32):List PArg→Option (SV × LEff × Cst)
 | [.winv _ vs n ty,.winv _ ws m ty2]=>some (.t [.a (.v (.slice none 0 0)),.a (int1 .i64 1)],.none,[vs=lvals (ak vs),(ak vs).length=n,AllL (ak vs),ws=lvals (ak ws),(ak ws).length=m,AllL (ak ws),n+m≤4000000,rndD ((ak vs)++(ak ws)) ((ak vs)++(ak ws)).length=true])
 | [.winv _ vs n ty,.val (.o (.a (.v (.slice b 0 0))))]=>some (.t [.a (.v (.slice none 0 0)),.a (int1 .i64 1)],.none,[vs=lvals (ak vs),(ak vs).length=n,AllL (ak vs),n≤4000000,rndD ((ak vs)++[]) ((ak vs)++[]).length=true])
 | [.val (.o (.a (.v (.slice a 0 0)))),.winv _ ws m ty2]=>some (.t [.a (.v (.slice none 0 0)),.a (int1 .i64 1)],.none,[ws=lvals (ak ws),(ak ws).length=m,AllL (ak ws),m≤4000000,rndD (([]:List Lf)++(ak ws)) (([]:List Lf)++(ak ws)).length=true])
 | _=>none
noncomputable def conE (H:Nd→Nd→B32) (hH:H=hV):Con Tryd.prog GT:=Con.parts aj 43 fn Tryd.func43 (by kernel_rfl) (c:=body) (by kernel_rfl) [.winv 64,.winv 64] (specE H)
 (fun ps r e p h hp=>by
  unfold specE at h
  split at h<;>cases h
  ·exact⟨rfl,fun b hb=>by simp only[aR,PArg.blk,List.append_nil,List.nil_append,List.cons_append,List.mem_cons,List.not_mem_nil,or_false] at hb;rcases hb with rfl | rfl<;>rfl⟩
  ·exact⟨rfl,fun b hb=>by simp only[aR,PArg.blk,List.append_nil,List.nil_append,List.cons_append,List.mem_cons,List.not_mem_nil,or_false] at hb;rw[hb]⟩
  ·exact⟨rfl,fun b hb=>by simp only[aR,PArg.blk,List.append_nil,List.nil_append,List.cons_append,List.mem_cons,List.not_mem_nil,or_false] at hb;rw[hb]⟩)
 (fun ps r e p cap h hp hi=>by
  unfold specE at h
  split at h<;>cases h
  ·rename_i s1 vs n ty s2 ws m ty2
   obtain⟨p1,p2,p3,q1,q2,q3,hb,px,_⟩:=hp
   obtain⟨⟨_,hc1⟩,⟨_,hc2⟩,_⟩:=hi
   have pB:=q3
   rcases Nat.eq_zero_or_pos n with py | py
   ·have q:=zw.run H hH (ak vs) n (cap 0) ty (ak ws) m (cap 1) ty2 p2 hc1 p3 q2 hc2 q3 hb py
    rw[←p1,←q1] at q
    refine Runs.mono q fun e t m=>bJ fun r m h=> ?_
    rcases h with⟨_,h⟩ | ⟨h',_⟩ | ⟨h',_⟩
    ·exact h
    ·rw[px] at h';cases h'
    ·rw[px] at h';cases h'
   ·have q:=pw.run H hH (ak vs) n (cap 0) ty (ak ws) m (cap 1) ty2 p2 hc1 p3 q2 hc2 q3 hb py
    rw[←p1,←q1] at q
    refine Runs.mono q fun e t m=>bJ fun r m h=> ?_
    rcases h with⟨_,h⟩ | ⟨h',_⟩ | ⟨h',_⟩
    ·exact h
    ·rw[px] at h';cases h'
    ·rw[px] at h';cases h'
  ·rename_i s1 vs n ty b
   obtain⟨p1,p2,p3,hb,px,_⟩:=hp
   have hc1:=hi.1.2
   have pB:AllL []:=fun x hx=>by cases hx
   rcases Nat.eq_zero_or_pos n with py | py
   ·have q:=zn.run H hH (ak vs) n (cap 0) ty b p2 hc1 p3 hb py
    rw[←p1] at q
    refine Runs.mono q fun e t m=>bJ fun r m h=> ?_
    rcases h with⟨_,h⟩ | ⟨h',_⟩ | ⟨h',_⟩
    ·exact h
    ·rw[px] at h';cases h'
    ·rw[px] at h';cases h'
   ·have q:=pn.run H hH (ak vs) n (cap 0) ty b p2 hc1 p3 hb py
    rw[←p1] at q
    refine Runs.mono q fun e t m=>bJ fun r m h=> ?_
    rcases h with⟨_,h⟩ | ⟨h',_⟩ | ⟨h',_⟩
    ·exact h
    ·rw[px] at h';cases h'
    ·rw[px] at h';cases h'
  ·rename_i a s2 ws m ty2
   obtain⟨q1,q2,q3,hb,px,_⟩:=hp
   have hc1:=hi.2.1.2
   have pB:=q3
   have q:=nw.run H hH a (ak ws) m (cap 0) ty2 q2 hc1 q3 hb
   rw[←q1] at q
   refine Runs.mono q fun e t m=>bJ fun r m h=> ?_
   rcases h with⟨_,h⟩ | ⟨h',_⟩ | ⟨h',_⟩
   ·exact h
   ·rw[px] at h';cases h'
   ·rw[px] at h';cases h')
noncomputable def specP (H:Nd→Nd→B32):List PArg→Option (SV × LEff × Cst)
 | [.winv _ vs n ty,.winv _ ws m ty2]=>some (.t [.a (.slg 0 (stR H (ak vs) (ak ws)).length),.a (int1 .i64 0)],.new 33 (.grv 65 (ah (stR H (ak vs) (ak ws))) (stR H (ak vs) (ak ws)).length none),[vs=lvals (ak vs),(ak vs).length=n,AllL (ak vs),ws=lvals (ak ws),(ak ws).length=m,AllL (ak ws),n+m≤4000000,rndD ((ak vs)++(ak ws)) ((ak vs)++(ak ws)).length=false,0<n])
 | [.winv _ vs n ty,.val (.o (.a (.v (.slice b 0 0))))]=>some (.t [.a (.slg 0 (stR H (ak vs) []).length),.a (int1 .i64 0)],.new 33 (.grv 65 (ah (stR H (ak vs) [])) (stR H (ak vs) []).length none),[vs=lvals (ak vs),(ak vs).length=n,AllL (ak vs),n≤4000000,rndD ((ak vs)++[]) ((ak vs)++[]).length=false,0<n])
 | _=>none
noncomputable def conP (H:Nd→Nd→B32) (hH:H=hV):Con Tryd.prog GT:=Con.parts aj 43 fn Tryd.func43 (by kernel_rfl) (c:=body) (by kernel_rfl) [.winv 64,.winv 64] (specP H)
 (fun ps r e p h hp=>by
  unfold specP at h
  split at h<;>cases h
  ·exact⟨rfl,fun b hb=>by simp only[aR,PArg.blk,List.append_nil,List.nil_append,List.cons_append,List.mem_cons,List.not_mem_nil,or_false] at hb;rcases hb with rfl | rfl<;>rfl⟩
  ·exact⟨rfl,fun b hb=>by simp only[aR,PArg.blk,List.append_nil,List.nil_append,List.cons_append,List.mem_cons,List.not_mem_nil,or_false] at hb;rw[hb]⟩)
 (fun ps r e p cap h hp hi=>by
  unfold specP at h
  split at h<;>cases h
  ·rename_i s1 vs n ty s2 ws m ty2
   obtain⟨p1,p2,p3,q1,q2,q3,hb,px,py,_⟩:=hp
   obtain⟨⟨_,hc1⟩,⟨_,hc2⟩,_⟩:=hi
   have pB:=q3
   have q:=pw.run H hH (ak vs) n (cap 0) ty (ak ws) m (cap 1) ty2 p2 hc1 p3 q2 hc2 q3 hb py
   rw[←p1,←q1] at q
   refine Runs.mono q fun e t m=>bJ fun r m h=> ?_
   rcases h with⟨h',_⟩ | ⟨_,h',_⟩ | ⟨_,_,h⟩
   ·rw[px] at h';cases h'
   ·exact absurd h' (st_ne (fun a b=>by rw[hH];exact hV_ok a b) p3 pB (by omega) px)
   ·exact h
  ·rename_i s1 vs n ty b
   obtain⟨p1,p2,p3,hb,px,py,_⟩:=hp
   have hc1:=hi.1.2
   have pB:AllL []:=fun x hx=>by cases hx
   have q:=pn.run H hH (ak vs) n (cap 0) ty b p2 hc1 p3 hb py
   rw[←p1] at q
   refine Runs.mono q fun e t m=>bJ fun r m h=> ?_
   rcases h with⟨h',_⟩ | ⟨_,h',_⟩ | ⟨_,_,h⟩
   ·rw[px] at h';cases h'
   ·exact absurd h' (st_ne (fun a b=>by rw[hH];exact hV_ok a b) p3 pB (by omega) px)
   ·exact h)
noncomputable def specZ (H:Nd→Nd→B32):List PArg→Option (SV × LEff × Cst)
 | [.winv _ vs n ty,.winv _ ws m ty2]=>some (.t [.a (.v (.slice none 0 0)),.a (int1 .i64 0)],.none,[vs=lvals (ak vs),(ak vs).length=n,AllL (ak vs),ws=lvals (ak ws),(ak ws).length=m,AllL (ak ws),n+m≤4000000,rndD ((ak vs)++(ak ws)) ((ak vs)++(ak ws)).length=false,n=0])
 | [.winv _ vs n ty,.val (.o (.a (.v (.slice b 0 0))))]=>some (.t [.a (.v (.slice none 0 0)),.a (int1 .i64 0)],.none,[vs=lvals (ak vs),(ak vs).length=n,AllL (ak vs),n≤4000000,rndD ((ak vs)++[]) ((ak vs)++[]).length=false,n=0])
 | [.val (.o (.a (.v (.slice a 0 0)))),.winv _ ws m ty2]=>some (.t [.a (.v (.slice none 0 0)),.a (int1 .i64 0)],.none,[ws=lvals (ak ws),(ak ws).length=m,AllL (ak ws),m≤4000000,rndD (([]:List Lf)++(ak ws)) (([]:List Lf)++(ak ws)).length=false])
 | [.val (.o (.a (.v (.slice a 0 0)))),.val (.o (.a (.v (.slice b 0 0))))]=>some (.t [.a (.v (.slice none 0 0)),.a (int1 .i64 0)],.none,[])
 | _=>none
noncomputable def conZ (H:Nd→Nd→B32) (hH:H=hV):Con Tryd.prog GT:=Con.parts aj 43 fn Tryd.func43 (by kernel_rfl) (c:=body) (by kernel_rfl) [.winv 64,.winv 64] (specZ H)
 (fun ps r e p h hp=>by
  unfold specZ at h
  split at h<;>cases h
  ·exact⟨rfl,fun b hb=>by simp only[aR,PArg.blk,List.append_nil,List.nil_append,List.cons_append,List.mem_cons,List.not_mem_nil,or_false] at hb;rcases hb with rfl | rfl<;>rfl⟩
  ·exact⟨rfl,fun b hb=>by simp only[aR,PArg.blk,List.append_nil,List.nil_append,List.cons_append,List.mem_cons,List.not_mem_nil,or_false] at hb;rw[hb]⟩
  ·exact⟨rfl,fun b hb=>by simp only[aR,PArg.blk,List.append_nil,List.nil_append,List.cons_append,List.mem_cons,List.not_mem_nil,or_false] at hb;rw[hb]⟩
  ·exact⟨rfl,fun b hb=>by simp[aR,PArg.blk] at hb⟩)
 (fun ps r e p cap h hp hi=>by
  unfold specZ at h
  split at h<;>cases h
  ·rename_i s1 vs n ty s2 ws m ty2
   obtain⟨p1,p2,p3,q1,q2,q3,hb,px,py,_⟩:=hp
   obtain⟨⟨_,hc1⟩,⟨_,hc2⟩,_⟩:=hi
   have pB:=q3
   have e0:ak vs=[]:=List.eq_nil_of_length_eq_zero (by omega)
   have q:=zw.run H hH (ak vs) n (cap 0) ty (ak ws) m (cap 1) ty2 p2 hc1 p3 q2 hc2 q3 hb py
   rw[←p1,←q1] at q
   refine Runs.mono q fun e t m=>bJ fun r m h=> ?_
   rcases h with⟨h',_⟩ | ⟨_,_,h⟩ | ⟨_,h',_⟩
   ·rw[px] at h';cases h'
   ·exact h
   ·rw[e0] at h';exact absurd (witV_nil H false _) h'
  ·rename_i s1 vs n ty b
   obtain⟨p1,p2,p3,hb,px,py,_⟩:=hp
   have hc1:=hi.1.2
   have pB:AllL []:=fun x hx=>by cases hx
   have e0:ak vs=[]:=List.eq_nil_of_length_eq_zero (by omega)
   have q:=zn.run H hH (ak vs) n (cap 0) ty b p2 hc1 p3 hb py
   rw[←p1] at q
   refine Runs.mono q fun e t m=>bJ fun r m h=> ?_
   rcases h with⟨h',_⟩ | ⟨_,_,h⟩ | ⟨_,h',_⟩
   ·rw[px] at h';cases h'
   ·exact h
   ·rw[e0] at h';exact absurd (witV_nil H false _) h'
  ·rename_i a s2 ws m ty2
   obtain⟨q1,q2,q3,hb,px,_⟩:=hp
   have hc1:=hi.2.1.2
   have pB:=q3
   have q:=nw.run H hH a (ak ws) m (cap 0) ty2 q2 hc1 q3 hb
   rw[←q1] at q
   refine Runs.mono q fun e t m=>bJ fun r m h=> ?_
   rcases h with⟨h',_⟩ | ⟨_,_,h⟩ | ⟨_,h',_⟩
   ·rw[px] at h';cases h'
   ·exact h
   ·exact absurd (witV_nil H false _) h'
  ·rename_i a b
   have px:rndD (([]:List Lf)++[]) (([]:List Lf)++[]).length=false:=rfl
   have pB:AllL []:=fun x hx=>by cases hx
   have q:=nn.run H hH a b
   refine Runs.mono q fun e t m=>bJ fun r m h=> ?_
   rcases h with⟨h',_⟩ | ⟨_,_,h⟩ | ⟨_,h',_⟩
   ·rw[px] at h';cases h'
   ·exact h
   ·exact absurd (witV_nil H false _) h')
end rst
end Go.Proofs.YtdccehmekkcheaaDoor
