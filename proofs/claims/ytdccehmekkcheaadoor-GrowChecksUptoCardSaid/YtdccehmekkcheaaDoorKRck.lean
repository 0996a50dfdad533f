/- Package beaconref12: Among, Check: contracts. -/
import Derived.Test.YtdccehmekkcheaaDoorKAmg
import Derived.Test.YtdccehmekkcheaaDoorKGkF
namespace Go.Proofs.YtdccehmekkcheaaDoor
open Go Go.Eng Go.RowKit
set_option linter.unusedVariables false
set_option linter.unusedSimpArgs false
set_option maxRecDepth 100000
namespace amg
noncomputable def specP:List PArg→Option (SV × LEff × Cst)
 | [.winv _ vs n ty,.winv _ ws m ty2]=>some (.o (.a (.slg 0 (n+m))),.new 33 (.grv 65 (ah (amA (aj vs) (au ws) m)) (n+m) none),[vs=ah (aj vs),(aj vs).length=n,aB (aj vs),ws=lvals (au ws),(au ws).length=m,AllL (au ws),n+m≤4000000,0<n+m])
 | [.winv _ vs n ty,.val (.o (.a (.v (.slice b 0 0))))]=>some (.o (.a (.slg 0 (n+0))),.new 33 (.grv 65 (ah (amA (aj vs) [] 0)) (n+0) none),[vs=ah (aj vs),(aj vs).length=n,aB (aj vs),n≤4000000,0<n+0])
 | [.val (.o (.a (.v (.slice a 0 0)))),.winv _ ws m ty2]=>some (.o (.a (.slg 0 (0+m))),.new 33 (.grv 65 (ah (amA [] (au ws) m)) (0+m) none),[ws=lvals (au ws),(au ws).length=m,AllL (au ws),m≤4000000,0<0+m])
 | _=>none
noncomputable def conP:Con Tryd.prog GT:=Con.parts ak 49 fn Tryd.func49 (by kernel_rfl) (c:=body) (by kernel_rfl) [.winv 65,.winv 64] specP
 (fun ps r e p h hp=>by
  unfold specP at h
  split at h<;>cases h
  ·exact⟨rfl,fun b hb=>by simp only[aP,PArg.blk,List.append_nil,List.nil_append,List.cons_append,List.mem_cons,List.not_mem_nil,or_false] at hb;rcases hb with rfl | rfl<;>rfl⟩
  ·exact⟨rfl,fun b hb=>by simp only[aP,PArg.blk,List.append_nil,List.nil_append,List.cons_append,List.mem_cons,List.not_mem_nil,or_false] at hb;rw[hb]⟩
  ·exact⟨rfl,fun b hb=>by simp only[aP,PArg.blk,List.append_nil,List.nil_append,List.cons_append,List.mem_cons,List.not_mem_nil,or_false] at hb;rw[hb]⟩)
 (fun ps r e p cap h hp hi=>by
  unfold specP at h
  split at h<;>cases h
  ·rename_i s1 vs n ty s2 ws m ty2
   obtain⟨p1,p2,p3,q1,q2,q3,hb,px,_⟩:=hp
   obtain⟨⟨_,hc1⟩,_⟩:=hi
   rcases Nat.eq_zero_or_pos n with h0 | h0
   ·have e0:aj vs=[]:=List.eq_nil_of_length_eq_zero (by omega)
    have q:=zw.run (aj vs) n (cap 0) ty (au ws) m (cap 1) ty2 p2 hc1 p3 q2 q3 hb h0
    rw[←p1,←q1] at q
    subst h0
    rw[e0] at q ⊢
    refine Runs.mono q fun e t m=>endsM_mono fun r m h=> ?_
    rcases h with⟨h',_⟩ | ⟨_,h⟩
    ·omega
    ·exact h
   ·have q:=pw.run (aj vs) n (cap 0) ty (au ws) m (cap 1) ty2 p2 hc1 p3 q2 q3 hb h0
    rw[←p1,←q1] at q
    exact q
  ·rename_i s1 vs n ty b
   obtain⟨p1,p2,p3,hb,px,_⟩:=hp
   have hc1:=hi.1.2
   rcases Nat.eq_zero_or_pos n with h0 | h0
   ·omega
   ·have q:=pn.run (aj vs) n (cap 0) ty b p2 hc1 p3 hb h0
    rw[←p1] at q
    exact q
  ·rename_i a s2 ws m ty2
   obtain⟨q1,q2,q3,hb,px,_⟩:=hp
   have q:=nw.run a (au ws) m (cap 0) ty2 q2 q3 hb
   rw[←q1] at q
   refine Runs.mono q fun e t m=>endsM_mono fun r m h=> ?_
   rcases h with⟨h',_⟩ | ⟨_,h⟩
   ·omega
   ·exact h)
noncomputable def specZ:List PArg→Option (SV × LEff × Cst)
 | [.winv _ vs n ty,.winv _ ws m ty2]=>some (.o (.a (.slc 0 0 0 0)),.new 33 (.lit []),[vs=ah (aj vs),(aj vs).length=n,aB (aj vs),ws=lvals (au ws),(au ws).length=m,AllL (au ws),n+m≤4000000,n+m=0])
 | [.winv _ vs n ty,.val (.o (.a (.v (.slice b 0 0))))]=>some (.o (.a (.slc 0 0 0 0)),.new 33 (.lit []),[vs=ah (aj vs),(aj vs).length=n,aB (aj vs),n≤4000000,n+0=0])
 | [.val (.o (.a (.v (.slice a 0 0)))),.winv _ ws m ty2]=>some (.o (.a (.slc 0 0 0 0)),.new 33 (.lit []),[ws=lvals (au ws),(au ws).length=m,AllL (au ws),m≤4000000,0+m=0])
 | [.val (.o (.a (.v (.slice a 0 0)))),.val (.o (.a (.v (.slice b 0 0))))]=>some (.o (.a (.slc 0 0 0 0)),.new 33 (.lit []),[])
 | _=>none
noncomputable def conZ:Con Tryd.prog GT:=Con.parts ak 49 fn Tryd.func49 (by kernel_rfl) (c:=body) (by kernel_rfl) [.winv 65,.winv 64] specZ
 (fun ps r e p h hp=>by
  unfold specZ at h
  split at h<;>cases h
  ·exact⟨rfl,fun b hb=>by simp only[aP,PArg.blk,List.append_nil,List.nil_append,List.cons_append,List.mem_cons,List.not_mem_nil,or_false] at hb;rcases hb with rfl | rfl<;>rfl⟩
  ·exact⟨rfl,fun b hb=>by simp only[aP,PArg.blk,List.append_nil,List.nil_append,List.cons_append,List.mem_cons,List.not_mem_nil,or_false] at hb;rw[hb]⟩
  ·exact⟨rfl,fun b hb=>by simp only[aP,PArg.blk,List.append_nil,List.nil_append,List.cons_append,List.mem_cons,List.not_mem_nil,or_false] at hb;rw[hb]⟩
  ·exact⟨rfl,fun b hb=>by simp[aP,PArg.blk] at hb⟩)
 (fun ps r e p cap h hp hi=>by
  unfold specZ at h
  split at h<;>cases h
  ·rename_i s1 vs n ty s2 ws m ty2
   obtain⟨p1,p2,p3,q1,q2,q3,hb,px,_⟩:=hp
   obtain⟨⟨_,hc1⟩,_⟩:=hi
   have q:=zw.run (aj vs) n (cap 0) ty (au ws) m (cap 1) ty2 p2 hc1 p3 q2 q3 hb (by omega)
   rw[←p1,←q1] at q
   refine Runs.mono q fun e t m=>endsM_mono fun r m h=> ?_
   rcases h with⟨_,h⟩ | ⟨h',_⟩
   ·exact h
   ·omega
  ·rename_i s1 vs n ty b
   obtain⟨p1,p2,p3,hb,px,_⟩:=hp
   have hc1:=hi.1.2
   have q:=zn.run (aj vs) n (cap 0) ty b p2 hc1 p3 hb (by omega)
   rw[←p1] at q
   exact q
  ·rename_i a s2 ws m ty2
   obtain⟨q1,q2,q3,hb,px,_⟩:=hp
   have q:=nw.run a (au ws) m (cap 0) ty2 q2 q3 hb
   rw[←q1] at q
   refine Runs.mono q fun e t m=>endsM_mono fun r m h=> ?_
   rcases h with⟨_,h⟩ | ⟨h',_⟩
   ·exact h
   ·omega
  ·rename_i a b
   exact nn.run a b)
end amg
noncomputable def chkR (H:Nd→Nd→B32) (E:B32) (S:Nd→B32) (s t:B32) (V:List Nd) (B:List Lf):Int:=chkV (aH H E S V) (aH H E S (amA V B B.length)) s t
theorem root_ap (H:Nd→Nd→B32) (E:B32) (S:Nd→B32) {l:List Nd}:(aM l=true→(aH H E S l).2=0)∧(aM l=false→(aH H E S l).2=1):=by
 unfold aH
 cases aM l with
 | true=>exact⟨fun _=>by rw[cond_true];cases Nat.beq l.length 0<;>rfl,fun h=>by cases h⟩
 | false=>exact⟨(fun h=>by cases h),fun _=>rfl⟩
theorem chk_err {x y:B32 × Int} (h:x.2=1) (s t:B32):chkV x y s t=1:=by
 obtain⟨x,e⟩:=x
 obtain rfl:e=1:=h
 rfl
namespace rck
noncomputable abbrev fn:=Tryd.f48
noncomputable def body:Code:=bF fn
noncomputable def T:Code:=csuf 4 body
section
variable (H:Nd→Nd→B32) (hH:H=hV) (E:B32) (hE':E=hE) (S:Nd→B32) (hS':S=hS)
noncomputable def ΓP:Cons Tryd.prog GT:=[rap.con,rrt.con H hH E hE' S hS' ,amg.conP]
noncomputable def ΓZ:Cons Tryd.prog GT:=[rap.con,rrt.con H hH E hE' S hS' ,amg.conZ]
end
theorem aY:AllL []:=fun x hx=>by cases hx
namespace ww
section
variable (H:Nd→Nd→B32)
def mo (hH:H=hV) (E:B32) (hE':E=hE) (S:Nd→B32) (hS':S=hS) (s t:B32) (V:List Nd) (n c:Nat) (ty:TypeId) (B:List Lf) (m d:Nat) (ty2:TypeId):List Blk:=[⟨false,ty,.prv (ah V)⟩,⟨false,ty2,.prv (lvals B)⟩]
def mf (hH:H=hV) (E:B32) (hE':E=hE) (S:Nd→B32) (hS':S=hS) (s t:B32) (V:List Nd) (n c:Nat) (ty:TypeId) (B:List Lf) (m d:Nat) (ty2:TypeId) (x y:B32):List Blk:=[⟨false,ty,.prv (ah V)⟩,⟨false,ty2,.prv (lvals B)⟩,⟨true,24,.lit (cB32.row s)⟩,⟨true,24,.lit (cB32.row t)⟩,⟨true,24,.lit (cB32.row x)⟩,⟨true,24,.lit (cB32.row y)⟩]
def MR (hH:H=hV) (E:B32) (hE':E=hE) (S:Nd→B32) (hS':S=hS) (s t:B32) (V:List Nd) (n c:Nat) (ty:TypeId) (B:List Lf) (m d:Nat) (ty2:TypeId) (e:Int):List (Option SV):=aD 38 0 [(8,.o (.a (int1 .i64 e)))]
theorem iR (hH:H=hV) (E:B32) (hE':E=hE) (S:Nd→B32) (hS':S=hS) (s t:B32) (V:List Nd) (n c:Nat) (ty:TypeId) (B:List Lf) (m d:Nat) (ty2:TypeId) (e:Int):aC (mo H hH E hE' S hS' s t V n c ty B m d ty2 ).length (MR H hH E hE' S hS' s t V n c ty B m d ty2 e) (mo H hH E hE' S hS' s t V n c ty B m d ty2 )=true:=by kernel_rfl
def M5 (hH:H=hV) (E:B32) (hE':E=hE) (S:Nd→B32) (hS':S=hS) (s t:B32) (V:List Nd) (n c:Nat) (ty:TypeId) (B:List Lf) (m d:Nat) (ty2:TypeId) (f:Int):List (Option SV):=aD 38 0 [(4,.o (.a (.ptr 2 0))),(5,.o (.a (.ptr 3 0))),(9,.o (.a (.ptr 4 0))),(11,.o (.a (.ptr 5 0))),(12,.o (.a (int1 .i64 f)))]
theorem i5 (hH:H=hV) (E:B32) (hE':E=hE) (S:Nd→B32) (hS':S=hS) (s t:B32) (V:List Nd) (n c:Nat) (ty:TypeId) (B:List Lf) (m d:Nat) (ty2:TypeId) (f:Int) (x y:B32):aC (mf H hH E hE' S hS' s t V n c ty B m d ty2 x y).length (M5 H hH E hE' S hS' s t V n c ty B m d ty2 f) (mf H hH E hE' S hS' s t V n c ty B m d ty2 x y)=true:=by kernel_rfl
theorem e1 (hH:H=hV) (E:B32) (hE':E=hE) (S:Nd→B32) (hS':S=hS) (s t:B32) (V:List Nd) (n c:Nat) (ty:TypeId) (B:List Lf) (m d:Nat) (ty2:TypeId):outN [0,1] (MR H hH E hE' S hS' s t V n c ty B m d ty2 1) (exec (ΓZ H hH E hE' S hS' ) tys 100 body ⟨aF fn [cB32.enc s,cB32.enc t,.o (.a (.sld 0 0 0 n c)),.o (.a (.sld 1 0 0 m d))],mo H hH E hE' S hS' s t V n c ty B m d ty2 ,[(14,[.s (aG.enc false)])]⟩)=some (.ret,(live (MR H hH E hE' S hS' s t V n c ty B m d ty2 1)).map (SV.ren (piF [0,1])),(MR H hH E hE' S hS' s t V n c ty B m d ty2 1).length,(mo H hH E hE' S hS' s t V n c ty B m d ty2 ).map (fun b=>some (b.ren (piF [0,1]))),[0+0+n*65≤(ah V).length,n≤c,((ah V).drop (0+0)).take (n*65)=ah (aj (((ah V).drop (0+0)).take (n*65))),(aj (((ah V).drop (0+0)).take (n*65))).length=n,n<aI,aB (aj (((ah V).drop (0+0)).take (n*65))),aG.enc (aM (aj (((ah V).drop (0+0)).take (n*65))))=aG.enc false]):=by kernel_rfl
theorem sP (hH:H=hV) (E:B32) (hE':E=hE) (S:Nd→B32) (hS':S=hS) (s t:B32) (V:List Nd) (n c:Nat) (ty:TypeId) (B:List Lf) (m d:Nat) (ty2:TypeId) (x:B32) (e:Int) (y:B32) (f:Int):outN [0,1,2,3,4,6] (M5 H hH E hE' S hS' s t V n c ty B m d ty2 f) (exec (ΓP H hH E hE' S hS' ) tys 100 (cpre 4 body) ⟨aF fn [cB32.enc s,cB32.enc t,.o (.a (.sld 0 0 0 n c)),.o (.a (.sld 1 0 0 m d))],mo H hH E hE' S hS' s t V n c ty B m d ty2 ,[(14,[.s (aG.enc true)]),(18,[.s (hsS (x,e))]),(25,[.s (hsS (y,f))])]⟩)=some (.normal,(live (M5 H hH E hE' S hS' s t V n c ty B m d ty2 f)).map (SV.ren (piF [0,1,2,3,4,6])),(M5 H hH E hE' S hS' s t V n c ty B m d ty2 f).length,(mf H hH E hE' S hS' s t V n c ty B m d ty2 x y).map (fun b=>some (b.ren (piF [0,1,2,3,4,6]))),[0+0+n*65≤(ah V).length,n≤c,((ah V).drop (0+0)).take (n*65)=ah (aj (((ah V).drop (0+0)).take (n*65))),(aj (((ah V).drop (0+0)).take (n*65))).length=n,n<aI,aB (aj (((ah V).drop (0+0)).take (n*65))),aG.enc (aM (aj (((ah V).drop (0+0)).take (n*65))))=aG.enc true,0+0+n*65≤(ah V).length,n≤c,((ah V).drop (0+0)).take (n*65)=ah (aj (((ah V).drop (0+0)).take (n*65))),(aj (((ah V).drop (0+0)).take (n*65))).length=n,n<aI,aB (aj (((ah V).drop (0+0)).take (n*65))),hsS (aH H E S (aj (((ah V).drop (0+0)).take (n*65))))=hsS (x,e),0+0+n*65≤(ah V).length,n≤c,0+0+m*64≤(lvals B).length,m≤d,((ah V).drop (0+0)).take (n*65)=ah (aj (((ah V).drop (0+0)).take (n*65))),(aj (((ah V).drop (0+0)).take (n*65))).length=n,aB (aj (((ah V).drop (0+0)).take (n*65))),((lvals B).drop (0+0)).take (m*64)=lvals (au (((lvals B).drop (0+0)).take (m*64))),(au (((lvals B).drop (0+0)).take (m*64))).length=m,AllL (au (((lvals B).drop (0+0)).take (m*64))),n+m≤4000000,0<n+m,0+0+(n+m)*65≤(ah (amA (aj (((ah V).drop (0+0)).take (n*65))) (au (((lvals B).drop (0+0)).take (m*64))) m)).length,n+m≤n+m,((ah (amA (aj (((ah V).drop (0+0)).take (n*65))) (au (((lvals B).drop (0+0)).take (m*64))) m)).drop (0+0)).take ((n+m)*65)=ah (aj (((ah (amA (aj (((ah V).drop (0+0)).take (n*65))) (au (((lvals B).drop (0+0)).take (m*64))) m)).drop (0+0)).take ((n+m)*65))),(aj (((ah (amA (aj (((ah V).drop (0+0)).take (n*65))) (au (((lvals B).drop (0+0)).take (m*64))) m)).drop (0+0)).take ((n+m)*65))).length=n+m,n+m<aI,aB (aj (((ah (amA (aj (((ah V).drop (0+0)).take (n*65))) (au (((lvals B).drop (0+0)).take (m*64))) m)).drop (0+0)).take ((n+m)*65))),hsS (aH H E S (aj (((ah (amA (aj (((ah V).drop (0+0)).take (n*65))) (au (((lvals B).drop (0+0)).take (m*64))) m)).drop (0+0)).take ((n+m)*65))))=hsS (y,f)]):=by kernel_rfl
theorem sZ (hH:H=hV) (E:B32) (hE':E=hE) (S:Nd→B32) (hS':S=hS) (s t:B32) (V:List Nd) (n c:Nat) (ty:TypeId) (B:List Lf) (m d:Nat) (ty2:TypeId) (x:B32) (e:Int) (y:B32) (f:Int):outN [0,1,2,3,4,6] (M5 H hH E hE' S hS' s t V n c ty B m d ty2 f) (exec (ΓZ H hH E hE' S hS' ) tys 100 (cpre 4 body) ⟨aF fn [cB32.enc s,cB32.enc t,.o (.a (.sld 0 0 0 n c)),.o (.a (.sld 1 0 0 m d))],mo H hH E hE' S hS' s t V n c ty B m d ty2 ,[(14,[.s (aG.enc true)]),(18,[.s (hsS (x,e))]),(25,[.s (hsS (y,f))])]⟩)=some (.normal,(live (M5 H hH E hE' S hS' s t V n c ty B m d ty2 f)).map (SV.ren (piF [0,1,2,3,4,6])),(M5 H hH E hE' S hS' s t V n c ty B m d ty2 f).length,(mf H hH E hE' S hS' s t V n c ty B m d ty2 x y).map (fun b=>some (b.ren (piF [0,1,2,3,4,6]))),[0+0+n*65≤(ah V).length,n≤c,((ah V).drop (0+0)).take (n*65)=ah (aj (((ah V).drop (0+0)).take (n*65))),(aj (((ah V).drop (0+0)).take (n*65))).length=n,n<aI,aB (aj (((ah V).drop (0+0)).take (n*65))),aG.enc (aM (aj (((ah V).drop (0+0)).take (n*65))))=aG.enc true,0+0+n*65≤(ah V).length,n≤c,((ah V).drop (0+0)).take (n*65)=ah (aj (((ah V).drop (0+0)).take (n*65))),(aj (((ah V).drop (0+0)).take (n*65))).length=n,n<aI,aB (aj (((ah V).drop (0+0)).take (n*65))),hsS (aH H E S (aj (((ah V).drop (0+0)).take (n*65))))=hsS (x,e),0+0+n*65≤(ah V).length,n≤c,0+0+m*64≤(lvals B).length,m≤d,((ah V).drop (0+0)).take (n*65)=ah (aj (((ah V).drop (0+0)).take (n*65))),(aj (((ah V).drop (0+0)).take (n*65))).length=n,aB (aj (((ah V).drop (0+0)).take (n*65))),((lvals B).drop (0+0)).take (m*64)=lvals (au (((lvals B).drop (0+0)).take (m*64))),(au (((lvals B).drop (0+0)).take (m*64))).length=m,AllL (au (((lvals B).drop (0+0)).take (m*64))),n+m≤4000000,n+m=0,0+0+0*65≤0,0≤0,(([]:List Value).drop (0+0)).take (0*65)=ah (aj ((([]:List Value).drop (0+0)).take (0*65))),(aj ((([]:List Value).drop (0+0)).take (0*65))).length=0,0<aI,aB (aj ((([]:List Value).drop (0+0)).take (0*65))),hsS (aH H E S (aj ((([]:List Value).drop (0+0)).take (0*65))))=hsS (y,f)]):=by kernel_rfl
theorem t2 (hH:H=hV) (E:B32) (hE':E=hE) (S:Nd→B32) (hS':S=hS) (s t:B32) (V:List Nd) (n c:Nat) (ty:TypeId) (B:List Lf) (m d:Nat) (ty2:TypeId) (x y:B32) (g:Nat→SV):outX (mo H hH E hE' S hS' s t V n c ty B m d ty2 ).length (MR H hH E hE' S hS' s t V n c ty B m d ty2 1) (exec (ΓZ H hH E hE' S hS' ) tys 300 T ⟨fill g 0 (M5 H hH E hE' S hS' s t V n c ty B m d ty2 1),mf H hH E hE' S hS' s t V n c ty B m d ty2 x y,[]⟩)=some (.ret,live (MR H hH E hE' S hS' s t V n c ty B m d ty2 1),(MR H hH E hE' S hS' s t V n c ty B m d ty2 1).length,mo H hH E hE' S hS' s t V n c ty B m d ty2 ,[]):=by kernel_rfl
theorem t3 (hH:H=hV) (E:B32) (hE':E=hE) (S:Nd→B32) (hS':S=hS) (s t:B32) (V:List Nd) (n c:Nat) (ty:TypeId) (B:List Lf) (m d:Nat) (ty2:TypeId) (x y:B32) (g:Nat→SV):outX (mo H hH E hE' S hS' s t V n c ty B m d ty2 ).length (MR H hH E hE' S hS' s t V n c ty B m d ty2 3) (exec (ΓZ H hH E hE' S hS' ) tys 300 T ⟨fill g 0 (M5 H hH E hE' S hS' s t V n c ty B m d ty2 0),mf H hH E hE' S hS' s t V n c ty B m d ty2 x y,[(32,[.b true])]⟩)=some (.ret,live (MR H hH E hE' S hS' s t V n c ty B m d ty2 3),(MR H hH E hE' S hS' s t V n c ty B m d ty2 3).length,mo H hH E hE' S hS' s t V n c ty B m d ty2 ,[(!eqL x.to s.to)=true]):=by kernel_rfl
theorem t4 (hH:H=hV) (E:B32) (hE':E=hE) (S:Nd→B32) (hS':S=hS) (s t:B32) (V:List Nd) (n c:Nat) (ty:TypeId) (B:List Lf) (m d:Nat) (ty2:TypeId) (x y:B32) (g:Nat→SV):outX (mo H hH E hE' S hS' s t V n c ty B m d ty2 ).length (MR H hH E hE' S hS' s t V n c ty B m d ty2 3) (exec (ΓZ H hH E hE' S hS' ) tys 300 T ⟨fill g 0 (M5 H hH E hE' S hS' s t V n c ty B m d ty2 0),mf H hH E hE' S hS' s t V n c ty B m d ty2 x y,[(32,[.b false]),(36,[.b true])]⟩)=some (.ret,live (MR H hH E hE' S hS' s t V n c ty B m d ty2 3),(MR H hH E hE' S hS' s t V n c ty B m d ty2 3).length,mo H hH E hE' S hS' s t V n c ty B m d ty2 ,[(!eqL x.to s.to)=false,(!eqL y.to t.to)=true]):=by kernel_rfl
theorem t5 (hH:H=hV) (E:B32) (hE':E=hE) (S:Nd→B32) (hS':S=hS) (s t:B32) (V:List Nd) (n c:Nat) (ty:TypeId) (B:List Lf) (m d:Nat) (ty2:TypeId) (x y:B32) (g:Nat→SV):outX (mo H hH E hE' S hS' s t V n c ty B m d ty2 ).length (MR H hH E hE' S hS' s t V n c ty B m d ty2 0) (exec (ΓZ H hH E hE' S hS' ) tys 300 T ⟨fill g 0 (M5 H hH E hE' S hS' s t V n c ty B m d ty2 0),mf H hH E hE' S hS' s t V n c ty B m d ty2 x y,[(32,[.b false]),(36,[.b false])]⟩)=some (.ret,live (MR H hH E hE' S hS' s t V n c ty B m d ty2 0),(MR H hH E hE' S hS' s t V n c ty B m d ty2 0).length,mo H hH E hE' S hS' s t V n c ty B m d ty2 ,[(!eqL x.to s.to)=false,(!eqL y.to t.to)=false]):=by kernel_rfl
theorem zr (hH:H=hV) (E:B32) (hE':E=hE) (S:Nd→B32) (hS':S=hS) (s t:B32) (V:List Nd) (n c:Nat) (ty:TypeId) (B:List Lf) (m d:Nat) (ty2:TypeId) (e:Int) (mm:Nat→Option Blk) (g:Nat→SV):eRes tys (fill g 0 (MR H hH E hE' S hS' s t V n c ty B m d ty2 e)) mm fn.results.toList=some [.a (int1 .i64 e)]:=by kernel_rfl
theorem tail (hH:H=hV) (E:B32) (hE':E=hE) (S:Nd→B32) (hS':S=hS) (s t:B32) (V:List Nd) (n c:Nat) (ty:TypeId) (B:List Lf) (m d:Nat) (ty2:TypeId) (x y:B32 × Int) (hx:x.2=0) (hy:y.2=0∨y.2=1) (g:Nat→SV):aA Tryd.prog GT 2 T (fill g 0 (M5 H hH E hE' S hS' s t V n c ty B m d ty2 y.2)) (mf H hH E hE' S hS' s t V n c ty B m d ty2 x.1 y.1) (ay tys fn (aR (.o (.a (int1 .i64 (chkV x y s t)))) .none)):=by
 obtain⟨x,e⟩:=x
 obtain⟨y,f⟩:=y
 obtain rfl:e=0:=hx
 rcases hy with rfl | rfl
 ·cases h1:eqL x.to s.to with
  | false=>
   refine Runs.av ak mixed (t3 H hH E hE' S hS' s t V n c ty B m d ty2 x y g) ⟨by rw[h1];rfl,trivial⟩ (iR H hH E hE' S hS' s t V n c ty B m d ty2 _) rfl fun g=>ay.ret (zr H hH E hE' S hS' s t V n c ty B m d ty2 _ _ g) ?_
   unfold chkV;rw[h1];rfl
  | true=>
   cases h2:eqL y.to t.to with
   | false=>
    refine Runs.av ak mixed (t4 H hH E hE' S hS' s t V n c ty B m d ty2 x y g) ⟨by rw[h1];rfl,by rw[h2];rfl,trivial⟩ (iR H hH E hE' S hS' s t V n c ty B m d ty2 _) rfl fun g=>ay.ret (zr H hH E hE' S hS' s t V n c ty B m d ty2 _ _ g) ?_
    unfold chkV;rw[h1,h2];rfl
   | true=>
    refine Runs.av ak mixed (t5 H hH E hE' S hS' s t V n c ty B m d ty2 x y g) ⟨by rw[h1];rfl,by rw[h2];rfl,trivial⟩ (iR H hH E hE' S hS' s t V n c ty B m d ty2 _) rfl fun g=>ay.ret (zr H hH E hE' S hS' s t V n c ty B m d ty2 _ _ g) ?_
    unfold chkV;rw[h1,h2];rfl
 ·exact Runs.av ak mixed (t2 H hH E hE' S hS' s t V n c ty B m d ty2 x y g) trivial (iR H hH E hE' S hS' s t V n c ty B m d ty2 _) rfl fun g=>ay.ret (zr H hH E hE' S hS' s t V n c ty B m d ty2 _ _ g) rfl
theorem run (hH:H=hV) (E:B32) (hE':E=hE) (S:Nd→B32) (hS':S=hS) (s t:B32) (V:List Nd) (n c:Nat) (ty:TypeId) (B:List Lf) (m d:Nat) (ty2:TypeId) (hn:V.length=n) (hc:n≤c) (hV':aB V) (hm:B.length=m) (hd:m≤d) (hB:AllL B) (hb:n+m≤4000000):aA Tryd.prog GT 2 body (aF fn [cB32.enc s,cB32.enc t,.o (.a (.sld 0 0 0 n c)),.o (.a (.sld 1 0 0 m d))]) [⟨false,ty,.prv (ah V)⟩,⟨false,ty2,.prv (lvals B)⟩] (ay tys fn (aR (.o (.a (int1 .i64 (chkR H E S s t V B)))) .none)):=by
 have dN:((ah V).drop (0+0)).take (n*65)=ah V:=dtn hn
 have ln:(ah V).length=n*65:=by rw[←hn];exact aL V
 have dB:((lvals B).drop (0+0)).take (m*64)=lvals B:=dtl hm
 have lb:(lvals B).length=m*64:=by rw[←hm];exact bP B
 have hb':∀k,k≤4000000→k<aI:=fun k hk=>by unfold aI;omega
 unfold chkR
 rw[hm]
 obtain⟨r1,r2⟩:=root_ap H E S (l:=V)
 cases hq:aM V with
 | false=>
  have q:=e1 H hH E hE' S hS' s t V n c ty B m d ty2
  rw[dN,aK,hq] at q
  rw[chk_err (r2 hq)]
  exact Runs.aN ak mixed [0,1] q ⟨by omega,hc,rfl,hn,hb' _ (by omega),hV',rfl,trivial⟩ (iR H hH E hE' S hS' s t V n c ty B m d ty2 _) rfl fun g=>ay.ret (zr H hH E hE' S hS' s t V n c ty B m d ty2 _ _ g) rfl
 | true=>
  have hx0:=r1 hq
  have hk:=amA_ok hV' hB m (by omega)
  have hl:(amA V B m).length=n+m:=by rw[amA_len];omega
  rcases Nat.eq_zero_or_pos (n+m) with h0 | h0
  ·have hz:amA V B m=[]:=List.eq_nil_of_length_eq_zero (by omega)
   have q:=sZ H hH E hE' S hS' s t V n c ty B m d ty2 (aH H E S V).1 (aH H E S V).2 (aH H E S (amA V B m)).1 (aH H E S (amA V B m)).2
   rw[dN,aK,dB,bG,show aj ((([]:List Value).drop (0+0)).take (0*65))=[] from dec0'] at q
   refine Runs.of_outNP ak mixed 4 [0,1,2,3,4,6] q ⟨by omega,hc,rfl,hn,hb' _ (by omega),hV',by rw[hq],by omega,hc,rfl,hn,hb' _ (by omega),hV',rfl,by omega,hc,by omega,hd,rfl,hn,hV',rfl,hm,hB,by omega,h0,by omega,Nat.le_refl _,rfl,rfl,hb' _ (by omega),bg,by rw[hz],trivial⟩ (i5 H hH E hE' S hS' s t V n c ty B m d ty2 _ _ _) (by kernel_rfl) fun g=> ?_
   exact tail H hH E hE' S hS' s t V n c ty B m d ty2 _ _ hx0 (root_01 H E S _) g
  ·have dA:((ah (amA V B m)).drop (0+0)).take ((n+m)*65)=ah (amA V B m):=dtn hl
   have q:=sP H hH E hE' S hS' s t V n c ty B m d ty2 (aH H E S V).1 (aH H E S V).2 (aH H E S (amA V B m)).1 (aH H E S (amA V B m)).2
   rw[dN,aK,dB,bG,dA,aK] at q
   refine Runs.of_outNP ak mixed 4 [0,1,2,3,4,6] q ⟨by omega,hc,rfl,hn,hb' _ (by omega),hV',by rw[hq],by omega,hc,rfl,hn,hb' _ (by omega),hV',rfl,by omega,hc,by omega,hd,rfl,hn,hV',rfl,hm,hB,by omega,h0,by rw[aL,hl];omega,Nat.le_refl _,rfl,hl,hb' _ (by omega),hk,rfl,trivial⟩ (i5 H hH E hE' S hS' s t V n c ty B m d ty2 _ _ _) (by kernel_rfl) fun g=> ?_
   exact tail H hH E hE' S hS' s t V n c ty B m d ty2 _ _ hx0 (root_01 H E S _) g
end
end ww
namespace wn
section
variable (H:Nd→Nd→B32)
def mo (hH:H=hV) (E:B32) (hE':E=hE) (S:Nd→B32) (hS':S=hS) (s t:B32) (V:List Nd) (n c:Nat) (ty:TypeId) (b:Option Addr):List Blk:=[⟨false,ty,.prv (ah V)⟩]
def mf (hH:H=hV) (E:B32) (hE':E=hE) (S:Nd→B32) (hS':S=hS) (s t:B32) (V:List Nd) (n c:Nat) (ty:TypeId) (b:Option Addr) (x y:B32):List Blk:=[⟨false,ty,.prv (ah V)⟩,⟨true,24,.lit (cB32.row s)⟩,⟨true,24,.lit (cB32.row t)⟩,⟨true,24,.lit (cB32.row x)⟩,⟨true,24,.lit (cB32.row y)⟩]
def MR (hH:H=hV) (E:B32) (hE':E=hE) (S:Nd→B32) (hS':S=hS) (s t:B32) (V:List Nd) (n c:Nat) (ty:TypeId) (b:Option Addr) (e:Int):List (Option SV):=aD 38 0 [(8,.o (.a (int1 .i64 e)))]
theorem iR (hH:H=hV) (E:B32) (hE':E=hE) (S:Nd→B32) (hS':S=hS) (s t:B32) (V:List Nd) (n c:Nat) (ty:TypeId) (b:Option Addr) (e:Int):aC (mo H hH E hE' S hS' s t V n c ty b ).length (MR H hH E hE' S hS' s t V n c ty b e) (mo H hH E hE' S hS' s t V n c ty b )=true:=by kernel_rfl
def M5 (hH:H=hV) (E:B32) (hE':E=hE) (S:Nd→B32) (hS':S=hS) (s t:B32) (V:List Nd) (n c:Nat) (ty:TypeId) (b:Option Addr) (f:Int):List (Option SV):=aD 38 0 [(4,.o (.a (.ptr 1 0))),(5,.o (.a (.ptr 2 0))),(9,.o (.a (.ptr 3 0))),(11,.o (.a (.ptr 4 0))),(12,.o (.a (int1 .i64 f)))]
theorem i5 (hH:H=hV) (E:B32) (hE':E=hE) (S:Nd→B32) (hS':S=hS) (s t:B32) (V:List Nd) (n c:Nat) (ty:TypeId) (b:Option Addr) (f:Int) (x y:B32):aC (mf H hH E hE' S hS' s t V n c ty b x y).length (M5 H hH E hE' S hS' s t V n c ty b f) (mf H hH E hE' S hS' s t V n c ty b x y)=true:=by kernel_rfl
theorem e1 (hH:H=hV) (E:B32) (hE':E=hE) (S:Nd→B32) (hS':S=hS) (s t:B32) (V:List Nd) (n c:Nat) (ty:TypeId) (b:Option Addr):outN [0] (MR H hH E hE' S hS' s t V n c ty b 1) (exec (ΓZ H hH E hE' S hS' ) tys 100 body ⟨aF fn [cB32.enc s,cB32.enc t,.o (.a (.sld 0 0 0 n c)),.o (.a (.v (.slice b 0 0)))],mo H hH E hE' S hS' s t V n c ty b ,[(14,[.s (aG.enc false)])]⟩)=some (.ret,(live (MR H hH E hE' S hS' s t V n c ty b 1)).map (SV.ren (piF [0])),(MR H hH E hE' S hS' s t V n c ty b 1).length,(mo H hH E hE' S hS' s t V n c ty b ).map (fun b=>some (b.ren (piF [0]))),[0+0+n*65≤(ah V).length,n≤c,((ah V).drop (0+0)).take (n*65)=ah (aj (((ah V).drop (0+0)).take (n*65))),(aj (((ah V).drop (0+0)).take (n*65))).length=n,n<aI,aB (aj (((ah V).drop (0+0)).take (n*65))),aG.enc (aM (aj (((ah V).drop (0+0)).take (n*65))))=aG.enc false]):=by kernel_rfl
theorem sP (hH:H=hV) (E:B32) (hE':E=hE) (S:Nd→B32) (hS':S=hS) (s t:B32) (V:List Nd) (n c:Nat) (ty:TypeId) (b:Option Addr) (x:B32) (e:Int) (y:B32) (f:Int):outN [0,1,2,3,5] (M5 H hH E hE' S hS' s t V n c ty b f) (exec (ΓP H hH E hE' S hS' ) tys 100 (cpre 4 body) ⟨aF fn [cB32.enc s,cB32.enc t,.o (.a (.sld 0 0 0 n c)),.o (.a (.v (.slice b 0 0)))],mo H hH E hE' S hS' s t V n c ty b ,[(14,[.s (aG.enc true)]),(18,[.s (hsS (x,e))]),(25,[.s (hsS (y,f))])]⟩)=some (.normal,(live (M5 H hH E hE' S hS' s t V n c ty b f)).map (SV.ren (piF [0,1,2,3,5])),(M5 H hH E hE' S hS' s t V n c ty b f).length,(mf H hH E hE' S hS' s t V n c ty b x y).map (fun b=>some (b.ren (piF [0,1,2,3,5]))),[0+0+n*65≤(ah V).length,n≤c,((ah V).drop (0+0)).take (n*65)=ah (aj (((ah V).drop (0+0)).take (n*65))),(aj (((ah V).drop (0+0)).take (n*65))).length=n,n<aI,aB (aj (((ah V).drop (0+0)).take (n*65))),aG.enc (aM (aj (((ah V).drop (0+0)).take (n*65))))=aG.enc true,0+0+n*65≤(ah V).length,n≤c,((ah V).drop (0+0)).take (n*65)=ah (aj (((ah V).drop (0+0)).take (n*65))),(aj (((ah V).drop (0+0)).take (n*65))).length=n,n<aI,aB (aj (((ah V).drop (0+0)).take (n*65))),hsS (aH H E S (aj (((ah V).drop (0+0)).take (n*65))))=hsS (x,e),0+0+n*65≤(ah V).length,n≤c,((ah V).drop (0+0)).take (n*65)=ah (aj (((ah V).drop (0+0)).take (n*65))),(aj (((ah V).drop (0+0)).take (n*65))).length=n,aB (aj (((ah V).drop (0+0)).take (n*65))),n≤4000000,0<n+0,0+0+(n+0)*65≤(ah (amA (aj (((ah V).drop (0+0)).take (n*65))) [] 0)).length,n+0≤n+0,((ah (amA (aj (((ah V).drop (0+0)).take (n*65))) [] 0)).drop (0+0)).take ((n+0)*65)=ah (aj (((ah (amA (aj (((ah V).drop (0+0)).take (n*65))) [] 0)).drop (0+0)).take ((n+0)*65))),(aj (((ah (amA (aj (((ah V).drop (0+0)).take (n*65))) [] 0)).drop (0+0)).take ((n+0)*65))).length=n+0,n+0<aI,aB (aj (((ah (amA (aj (((ah V).drop (0+0)).take (n*65))) [] 0)).drop (0+0)).take ((n+0)*65))),hsS (aH H E S (aj (((ah (amA (aj (((ah V).drop (0+0)).take (n*65))) [] 0)).drop (0+0)).take ((n+0)*65))))=hsS (y,f)]):=by kernel_rfl
theorem sZ (hH:H=hV) (E:B32) (hE':E=hE) (S:Nd→B32) (hS':S=hS) (s t:B32) (V:List Nd) (n c:Nat) (ty:TypeId) (b:Option Addr) (x:B32) (e:Int) (y:B32) (f:Int):outN [0,1,2,3,5] (M5 H hH E hE' S hS' s t V n c ty b f) (exec (ΓZ H hH E hE' S hS' ) tys 100 (cpre 4 body) ⟨aF fn [cB32.enc s,cB32.enc t,.o (.a (.sld 0 0 0 n c)),.o (.a (.v (.slice b 0 0)))],mo H hH E hE' S hS' s t V n c ty b ,[(14,[.s (aG.enc true)]),(18,[.s (hsS (x,e))]),(25,[.s (hsS (y,f))])]⟩)=some (.normal,(live (M5 H hH E hE' S hS' s t V n c ty b f)).map (SV.ren (piF [0,1,2,3,5])),(M5 H hH E hE' S hS' s t V n c ty b f).length,(mf H hH E hE' S hS' s t V n c ty b x y).map (fun b=>some (b.ren (piF [0,1,2,3,5]))),[0+0+n*65≤(ah V).length,n≤c,((ah V).drop (0+0)).take (n*65)=ah (aj (((ah V).drop (0+0)).take (n*65))),(aj (((ah V).drop (0+0)).take (n*65))).length=n,n<aI,aB (aj (((ah V).drop (0+0)).take (n*65))),aG.enc (aM (aj (((ah V).drop (0+0)).take (n*65))))=aG.enc true,0+0+n*65≤(ah V).length,n≤c,((ah V).drop (0+0)).take (n*65)=ah (aj (((ah V).drop (0+0)).take (n*65))),(aj (((ah V).drop (0+0)).take (n*65))).length=n,n<aI,aB (aj (((ah V).drop (0+0)).take (n*65))),hsS (aH H E S (aj (((ah V).drop (0+0)).take (n*65))))=hsS (x,e),0+0+n*65≤(ah V).length,n≤c,((ah V).drop (0+0)).take (n*65)=ah (aj (((ah V).drop (0+0)).take (n*65))),(aj (((ah V).drop (0+0)).take (n*65))).length=n,aB (aj (((ah V).drop (0+0)).take (n*65))),n≤4000000,n+0=0,0+0+0*65≤0,0≤0,(([]:List Value).drop (0+0)).take (0*65)=ah (aj ((([]:List Value).drop (0+0)).take (0*65))),(aj ((([]:List Value).drop (0+0)).take (0*65))).length=0,0<aI,aB (aj ((([]:List Value).drop (0+0)).take (0*65))),hsS (aH H E S (aj ((([]:List Value).drop (0+0)).take (0*65))))=hsS (y,f)]):=by kernel_rfl
theorem t2 (hH:H=hV) (E:B32) (hE':E=hE) (S:Nd→B32) (hS':S=hS) (s t:B32) (V:List Nd) (n c:Nat) (ty:TypeId) (b:Option Addr) (x y:B32) (g:Nat→SV):outX (mo H hH E hE' S hS' s t V n c ty b ).length (MR H hH E hE' S hS' s t V n c ty b 1) (exec (ΓZ H hH E hE' S hS' ) tys 300 T ⟨fill g 0 (M5 H hH E hE' S hS' s t V n c ty b 1),mf H hH E hE' S hS' s t V n c ty b x y,[]⟩)=some (.ret,live (MR H hH E hE' S hS' s t V n c ty b 1),(MR H hH E hE' S hS' s t V n c ty b 1).length,mo H hH E hE' S hS' s t V n c ty b ,[]):=by kernel_rfl
theorem t3 (hH:H=hV) (E:B32) (hE':E=hE) (S:Nd→B32) (hS':S=hS) (s t:B32) (V:List Nd) (n c:Nat) (ty:TypeId) (b:Option Addr) (x y:B32) (g:Nat→SV):outX (mo H hH E hE' S hS' s t V n c ty b ).length (MR H hH E hE' S hS' s t V n c ty b 3) (exec (ΓZ H hH E hE' S hS' ) tys 300 T ⟨fill g 0 (M5 H hH E hE' S hS' s t V n c ty b 0),mf H hH E hE' S hS' s t V n c ty b x y,[(32,[.b true])]⟩)=some (.ret,live (MR H hH E hE' S hS' s t V n c ty b 3),(MR H hH E hE' S hS' s t V n c ty b 3).length,mo H hH E hE' S hS' s t V n c ty b ,[(!eqL x.to s.to)=true]):=by kernel_rfl
theorem t4 (hH:H=hV) (E:B32) (hE':E=hE) (S:Nd→B32) (hS':S=hS) (s t:B32) (V:List Nd) (n c:Nat) (ty:TypeId) (b:Option Addr) (x y:B32) (g:Nat→SV):outX (mo H hH E hE' S hS' s t V n c ty b ).length (MR H hH E hE' S hS' s t V n c ty b 3) (exec (ΓZ H hH E hE' S hS' ) tys 300 T ⟨fill g 0 (M5 H hH E hE' S hS' s t V n c ty b 0),mf H hH E hE' S hS' s t V n c ty b x y,[(32,[.b false]),(36,[.b true])]⟩)=some (.ret,live (MR H hH E hE' S hS' s t V n c ty b 3),(MR H hH E hE' S hS' s t V n c ty b 3).length,mo H hH E hE' S hS' s t V n c ty b ,[(!eqL x.to s.to)=false,(!eqL y.to t.to)=true]):=by kernel_rfl
theorem t5 (hH:H=hV) (E:B32) (hE':E=hE) (S:Nd→B32) (hS':S=hS) (s t:B32) (V:List Nd) (n c:Nat) (ty:TypeId) (b:Option Addr) (x y:B32) (g:Nat→SV):outX (mo H hH E hE' S hS' s t V n c ty b ).length (MR H hH E hE' S hS' s t V n c ty b 0) (exec (ΓZ H hH E hE' S hS' ) tys 300 T ⟨fill g 0 (M5 H hH E hE' S hS' s t V n c ty b 0),mf H hH E hE' S hS' s t V n c ty b x y,[(32,[.b false]),(36,[.b false])]⟩)=some (.ret,live (MR H hH E hE' S hS' s t V n c ty b 0),(MR H hH E hE' S hS' s t V n c ty b 0).length,mo H hH E hE' S hS' s t V n c ty b ,[(!eqL x.to s.to)=false,(!eqL y.to t.to)=false]):=by kernel_rfl
theorem zr (hH:H=hV) (E:B32) (hE':E=hE) (S:Nd→B32) (hS':S=hS) (s t:B32) (V:List Nd) (n c:Nat) (ty:TypeId) (b:Option Addr) (e:Int) (mm:Nat→Option Blk) (g:Nat→SV):eRes tys (fill g 0 (MR H hH E hE' S hS' s t V n c ty b e)) mm fn.results.toList=some [.a (int1 .i64 e)]:=by kernel_rfl
theorem tail (hH:H=hV) (E:B32) (hE':E=hE) (S:Nd→B32) (hS':S=hS) (s t:B32) (V:List Nd) (n c:Nat) (ty:TypeId) (b:Option Addr) (x y:B32 × Int) (hx:x.2=0) (hy:y.2=0∨y.2=1) (g:Nat→SV):aA Tryd.prog GT 1 T (fill g 0 (M5 H hH E hE' S hS' s t V n c ty b y.2)) (mf H hH E hE' S hS' s t V n c ty b x.1 y.1) (ay tys fn (aR (.o (.a (int1 .i64 (chkV x y s t)))) .none)):=by
 obtain⟨x,e⟩:=x
 obtain⟨y,f⟩:=y
 obtain rfl:e=0:=hx
 rcases hy with rfl | rfl
 ·cases h1:eqL x.to s.to with
  | false=>
   refine Runs.av ak mixed (t3 H hH E hE' S hS' s t V n c ty b x y g) ⟨by rw[h1];rfl,trivial⟩ (iR H hH E hE' S hS' s t V n c ty b _) rfl fun g=>ay.ret (zr H hH E hE' S hS' s t V n c ty b _ _ g) ?_
   unfold chkV;rw[h1];rfl
  | true=>
   cases h2:eqL y.to t.to with
   | false=>
    refine Runs.av ak mixed (t4 H hH E hE' S hS' s t V n c ty b x y g) ⟨by rw[h1];rfl,by rw[h2];rfl,trivial⟩ (iR H hH E hE' S hS' s t V n c ty b _) rfl fun g=>ay.ret (zr H hH E hE' S hS' s t V n c ty b _ _ g) ?_
    unfold chkV;rw[h1,h2];rfl
   | true=>
    refine Runs.av ak mixed (t5 H hH E hE' S hS' s t V n c ty b x y g) ⟨by rw[h1];rfl,by rw[h2];rfl,trivial⟩ (iR H hH E hE' S hS' s t V n c ty b _) rfl fun g=>ay.ret (zr H hH E hE' S hS' s t V n c ty b _ _ g) ?_
    unfold chkV;rw[h1,h2];rfl
 ·exact Runs.av ak mixed (t2 H hH E hE' S hS' s t V n c ty b x y g) trivial (iR H hH E hE' S hS' s t V n c ty b _) rfl fun g=>ay.ret (zr H hH E hE' S hS' s t V n c ty b _ _ g) rfl
theorem run (hH:H=hV) (E:B32) (hE':E=hE) (S:Nd→B32) (hS':S=hS) (s t:B32) (V:List Nd) (n c:Nat) (ty:TypeId) (b:Option Addr) (hn:V.length=n) (hc:n≤c) (hV':aB V) (hb:n≤4000000):aA Tryd.prog GT 1 body (aF fn [cB32.enc s,cB32.enc t,.o (.a (.sld 0 0 0 n c)),.o (.a (.v (.slice b 0 0)))]) [⟨false,ty,.prv (ah V)⟩] (ay tys fn (aR (.o (.a (int1 .i64 (chkR H E S s t V [])))) .none)):=by
 have dN:((ah V).drop (0+0)).take (n*65)=ah V:=dtn hn
 have ln:(ah V).length=n*65:=by rw[←hn];exact aL V
 have hb':∀k,k≤4000000→k<aI:=fun k hk=>by unfold aI;omega
 unfold chkR
 obtain⟨r1,r2⟩:=root_ap H E S (l:=V)
 cases hq:aM V with
 | false=>
  have q:=e1 H hH E hE' S hS' s t V n c ty b
  rw[dN,aK,hq] at q
  rw[chk_err (r2 hq)]
  exact Runs.aN ak mixed [0] q ⟨by omega,hc,rfl,hn,hb' _ (by omega),hV',rfl,trivial⟩ (iR H hH E hE' S hS' s t V n c ty b _) rfl fun g=>ay.ret (zr H hH E hE' S hS' s t V n c ty b _ _ g) rfl
 | true=>
  have hx0:=r1 hq
  have hk:=amA_ok hV' aY 0 (by exact Nat.zero_le _)
  have hl:(amA V [] 0).length=n+0:=by rw[amA_len];omega
  rcases Nat.eq_zero_or_pos (n+0) with h0 | h0
  ·have hz:amA V [] 0=[]:=List.eq_nil_of_length_eq_zero (by omega)
   have q:=sZ H hH E hE' S hS' s t V n c ty b (aH H E S V).1 (aH H E S V).2 (aH H E S (amA V [] 0)).1 (aH H E S (amA V [] 0)).2
   rw[dN,aK,show aj ((([]:List Value).drop (0+0)).take (0*65))=[] from dec0'] at q
   refine Runs.of_outNP ak mixed 4 [0,1,2,3,5] q ⟨by omega,hc,rfl,hn,hb' _ (by omega),hV',by rw[hq],by omega,hc,rfl,hn,hb' _ (by omega),hV',rfl,by omega,hc,rfl,hn,hV',by omega,h0,by omega,Nat.le_refl _,rfl,rfl,hb' _ (by omega),bg,by rw[hz],trivial⟩ (i5 H hH E hE' S hS' s t V n c ty b _ _ _) (by kernel_rfl) fun g=> ?_
   exact tail H hH E hE' S hS' s t V n c ty b _ _ hx0 (root_01 H E S _) g
  ·have dA:((ah (amA V [] 0)).drop (0+0)).take ((n+0)*65)=ah (amA V [] 0):=dtn hl
   have q:=sP H hH E hE' S hS' s t V n c ty b (aH H E S V).1 (aH H E S V).2 (aH H E S (amA V [] 0)).1 (aH H E S (amA V [] 0)).2
   rw[dN,aK,dA,aK] at q
   refine Runs.of_outNP ak mixed 4 [0,1,2,3,5] q ⟨by omega,hc,rfl,hn,hb' _ (by omega),hV',by rw[hq],by omega,hc,rfl,hn,hb' _ (by omega),hV',rfl,by omega,hc,rfl,hn,hV',by omega,h0,by rw[aL,hl];omega,Nat.le_refl _,rfl,hl,hb' _ (by omega),hk,rfl,trivial⟩ (i5 H hH E hE' S hS' s t V n c ty b _ _ _) (by kernel_rfl) fun g=> ?_
   exact tail H hH E hE' S hS' s t V n c ty b _ _ hx0 (root_01 H E S _) g
end
end wn
namespace nw
section
variable (H:Nd→Nd→B32)
def mo (hH:H=hV) (E:B32) (hE':E=hE) (S:Nd→B32) (hS':S=hS) (s t:B32) (a:Option Addr) (B:List Lf) (m d:Nat) (ty2:TypeId):List Blk:=[⟨false,ty2,.prv (lvals B)⟩]
def mf (hH:H=hV) (E:B32) (hE':E=hE) (S:Nd→B32) (hS':S=hS) (s t:B32) (a:Option Addr) (B:List Lf) (m d:Nat) (ty2:TypeId) (x y:B32):List Blk:=[⟨false,ty2,.prv (lvals B)⟩,⟨true,24,.lit (cB32.row s)⟩,⟨true,24,.lit (cB32.row t)⟩,⟨true,24,.lit (cB32.row x)⟩,⟨true,24,.lit (cB32.row y)⟩]
def MR (hH:H=hV) (E:B32) (hE':E=hE) (S:Nd→B32) (hS':S=hS) (s t:B32) (a:Option Addr) (B:List Lf) (m d:Nat) (ty2:TypeId) (e:Int):List (Option SV):=aD 38 0 [(8,.o (.a (int1 .i64 e)))]
theorem iR (hH:H=hV) (E:B32) (hE':E=hE) (S:Nd→B32) (hS':S=hS) (s t:B32) (a:Option Addr) (B:List Lf) (m d:Nat) (ty2:TypeId) (e:Int):aC (mo H hH E hE' S hS' s t a B m d ty2 ).length (MR H hH E hE' S hS' s t a B m d ty2 e) (mo H hH E hE' S hS' s t a B m d ty2 )=true:=by kernel_rfl
def M5 (hH:H=hV) (E:B32) (hE':E=hE) (S:Nd→B32) (hS':S=hS) (s t:B32) (a:Option Addr) (B:List Lf) (m d:Nat) (ty2:TypeId) (f:Int):List (Option SV):=aD 38 0 [(4,.o (.a (.ptr 1 0))),(5,.o (.a (.ptr 2 0))),(9,.o (.a (.ptr 3 0))),(11,.o (.a (.ptr 4 0))),(12,.o (.a (int1 .i64 f)))]
theorem i5 (hH:H=hV) (E:B32) (hE':E=hE) (S:Nd→B32) (hS':S=hS) (s t:B32) (a:Option Addr) (B:List Lf) (m d:Nat) (ty2:TypeId) (f:Int) (x y:B32):aC (mf H hH E hE' S hS' s t a B m d ty2 x y).length (M5 H hH E hE' S hS' s t a B m d ty2 f) (mf H hH E hE' S hS' s t a B m d ty2 x y)=true:=by kernel_rfl
theorem sP (hH:H=hV) (E:B32) (hE':E=hE) (S:Nd→B32) (hS':S=hS) (s t:B32) (a:Option Addr) (B:List Lf) (m d:Nat) (ty2:TypeId) (x:B32) (e:Int) (y:B32) (f:Int):outN [0,1,2,3,5] (M5 H hH E hE' S hS' s t a B m d ty2 f) (exec (ΓP H hH E hE' S hS' ) tys 100 (cpre 4 body) ⟨aF fn [cB32.enc s,cB32.enc t,.o (.a (.v (.slice a 0 0))),.o (.a (.sld 0 0 0 m d))],mo H hH E hE' S hS' s t a B m d ty2 ,[(14,[.s (aG.enc true)]),(18,[.s (hsS (x,e))]),(25,[.s (hsS (y,f))])]⟩)=some (.normal,(live (M5 H hH E hE' S hS' s t a B m d ty2 f)).map (SV.ren (piF [0,1,2,3,5])),(M5 H hH E hE' S hS' s t a B m d ty2 f).length,(mf H hH E hE' S hS' s t a B m d ty2 x y).map (fun b=>some (b.ren (piF [0,1,2,3,5]))),[aG.enc true=aG.enc true,hsS (E,0)=hsS (x,e),0+0+m*64≤(lvals B).length,m≤d,((lvals B).drop (0+0)).take (m*64)=lvals (au (((lvals B).drop (0+0)).take (m*64))),(au (((lvals B).drop (0+0)).take (m*64))).length=m,AllL (au (((lvals B).drop (0+0)).take (m*64))),m≤4000000,0<0+m,0+0+(0+m)*65≤(ah (amA [] (au (((lvals B).drop (0+0)).take (m*64))) m)).length,0+m≤0+m,((ah (amA [] (au (((lvals B).drop (0+0)).take (m*64))) m)).drop (0+0)).take ((0+m)*65)=ah (aj (((ah (amA [] (au (((lvals B).drop (0+0)).take (m*64))) m)).drop (0+0)).take ((0+m)*65))),(aj (((ah (amA [] (au (((lvals B).drop (0+0)).take (m*64))) m)).drop (0+0)).take ((0+m)*65))).length=0+m,0+m<aI,aB (aj (((ah (amA [] (au (((lvals B).drop (0+0)).take (m*64))) m)).drop (0+0)).take ((0+m)*65))),hsS (aH H E S (aj (((ah (amA [] (au (((lvals B).drop (0+0)).take (m*64))) m)).drop (0+0)).take ((0+m)*65))))=hsS (y,f)]):=by kernel_rfl
theorem sZ (hH:H=hV) (E:B32) (hE':E=hE) (S:Nd→B32) (hS':S=hS) (s t:B32) (a:Option Addr) (B:List Lf) (m d:Nat) (ty2:TypeId) (x:B32) (e:Int) (y:B32) (f:Int):outN [0,1,2,3,5] (M5 H hH E hE' S hS' s t a B m d ty2 f) (exec (ΓZ H hH E hE' S hS' ) tys 100 (cpre 4 body) ⟨aF fn [cB32.enc s,cB32.enc t,.o (.a (.v (.slice a 0 0))),.o (.a (.sld 0 0 0 m d))],mo H hH E hE' S hS' s t a B m d ty2 ,[(14,[.s (aG.enc true)]),(18,[.s (hsS (x,e))]),(25,[.s (hsS (y,f))])]⟩)=some (.normal,(live (M5 H hH E hE' S hS' s t a B m d ty2 f)).map (SV.ren (piF [0,1,2,3,5])),(M5 H hH E hE' S hS' s t a B m d ty2 f).length,(mf H hH E hE' S hS' s t a B m d ty2 x y).map (fun b=>some (b.ren (piF [0,1,2,3,5]))),[aG.enc true=aG.enc true,hsS (E,0)=hsS (x,e),0+0+m*64≤(lvals B).length,m≤d,((lvals B).drop (0+0)).take (m*64)=lvals (au (((lvals B).drop (0+0)).take (m*64))),(au (((lvals B).drop (0+0)).take (m*64))).length=m,AllL (au (((lvals B).drop (0+0)).take (m*64))),m≤4000000,0+m=0,0+0+0*65≤0,0≤0,(([]:List Value).drop (0+0)).take (0*65)=ah (aj ((([]:List Value).drop (0+0)).take (0*65))),(aj ((([]:List Value).drop (0+0)).take (0*65))).length=0,0<aI,aB (aj ((([]:List Value).drop (0+0)).take (0*65))),hsS (aH H E S (aj ((([]:List Value).drop (0+0)).take (0*65))))=hsS (y,f)]):=by kernel_rfl
theorem t2 (hH:H=hV) (E:B32) (hE':E=hE) (S:Nd→B32) (hS':S=hS) (s t:B32) (a:Option Addr) (B:List Lf) (m d:Nat) (ty2:TypeId) (x y:B32) (g:Nat→SV):outX (mo H hH E hE' S hS' s t a B m d ty2 ).length (MR H hH E hE' S hS' s t a B m d ty2 1) (exec (ΓZ H hH E hE' S hS' ) tys 300 T ⟨fill g 0 (M5 H hH E hE' S hS' s t a B m d ty2 1),mf H hH E hE' S hS' s t a B m d ty2 x y,[]⟩)=some (.ret,live (MR H hH E hE' S hS' s t a B m d ty2 1),(MR H hH E hE' S hS' s t a B m d ty2 1).length,mo H hH E hE' S hS' s t a B m d ty2 ,[]):=by kernel_rfl
theorem t3 (hH:H=hV) (E:B32) (hE':E=hE) (S:Nd→B32) (hS':S=hS) (s t:B32) (a:Option Addr) (B:List Lf) (m d:Nat) (ty2:TypeId) (x y:B32) (g:Nat→SV):outX (mo H hH E hE' S hS' s t a B m d ty2 ).length (MR H hH E hE' S hS' s t a B m d ty2 3) (exec (ΓZ H hH E hE' S hS' ) tys 300 T ⟨fill g 0 (M5 H hH E hE' S hS' s t a B m d ty2 0),mf H hH E hE' S hS' s t a B m d ty2 x y,[(32,[.b true])]⟩)=some (.ret,live (MR H hH E hE' S hS' s t a B m d ty2 3),(MR H hH E hE' S hS' s t a B m d ty2 3).length,mo H hH E hE' S hS' s t a B m d ty2 ,[(!eqL x.to s.to)=true]):=by kernel_rfl
theorem t4 (hH:H=hV) (E:B32) (hE':E=hE) (S:Nd→B32) (hS':S=hS) (s t:B32) (a:Option Addr) (B:List Lf) (m d:Nat) (ty2:TypeId) (x y:B32) (g:Nat→SV):outX (mo H hH E hE' S hS' s t a B m d ty2 ).length (MR H hH E hE' S hS' s t a B m d ty2 3) (exec (ΓZ H hH E hE' S hS' ) tys 300 T ⟨fill g 0 (M5 H hH E hE' S hS' s t a B m d ty2 0),mf H hH E hE' S hS' s t a B m d ty2 x y,[(32,[.b false]),(36,[.b true])]⟩)=some (.ret,live (MR H hH E hE' S hS' s t a B m d ty2 3),(MR H hH E hE' S hS' s t a B m d ty2 3).length,mo H hH E hE' S hS' s t a B m d ty2 ,[(!eqL x.to s.to)=false,(!eqL y.to t.to)=true]):=by kernel_rfl
theorem t5 (hH:H=hV) (E:B32) (hE':E=hE) (S:Nd→B32) (hS':S=hS) (s t:B32) (a:Option Addr) (B:List Lf) (m d:Nat) (ty2:TypeId) (x y:B32) (g:Nat→SV):outX (mo H hH E hE' S hS' s t a B m d ty2 ).length (MR H hH E hE' S hS' s t a B m d ty2 0) (exec (ΓZ H hH E hE' S hS' ) tys 300 T ⟨fill g 0 (M5 H hH E hE' S hS' s t a B m d ty2 0),mf H hH E hE' S hS' s t a B m d ty2 x y,[(32,[.b false]),(36,[.b false])]⟩)=some (.ret,live (MR H hH E hE' S hS' s t a B m d ty2 0),(MR H hH E hE' S hS' s t a B m d ty2 0).length,mo H hH E hE' S hS' s t a B m d ty2 ,[(!eqL x.to s.to)=false,(!eqL y.to t.to)=false]):=by kernel_rfl
theorem zr (hH:H=hV) (E:B32) (hE':E=hE) (S:Nd→B32) (hS':S=hS) (s t:B32) (a:Option Addr) (B:List Lf) (m d:Nat) (ty2:TypeId) (e:Int) (mm:Nat→Option Blk) (g:Nat→SV):eRes tys (fill g 0 (MR H hH E hE' S hS' s t a B m d ty2 e)) mm fn.results.toList=some [.a (int1 .i64 e)]:=by kernel_rfl
theorem tail (hH:H=hV) (E:B32) (hE':E=hE) (S:Nd→B32) (hS':S=hS) (s t:B32) (a:Option Addr) (B:List Lf) (m d:Nat) (ty2:TypeId) (x y:B32 × Int) (hx:x.2=0) (hy:y.2=0∨y.2=1) (g:Nat→SV):aA Tryd.prog GT 1 T (fill g 0 (M5 H hH E hE' S hS' s t a B m d ty2 y.2)) (mf H hH E hE' S hS' s t a B m d ty2 x.1 y.1) (ay tys fn (aR (.o (.a (int1 .i64 (chkV x y s t)))) .none)):=by
 obtain⟨x,e⟩:=x
 obtain⟨y,f⟩:=y
 obtain rfl:e=0:=hx
 rcases hy with rfl | rfl
 ·cases h1:eqL x.to s.to with
  | false=>
   refine Runs.av ak mixed (t3 H hH E hE' S hS' s t a B m d ty2 x y g) ⟨by rw[h1];rfl,trivial⟩ (iR H hH E hE' S hS' s t a B m d ty2 _) rfl fun g=>ay.ret (zr H hH E hE' S hS' s t a B m d ty2 _ _ g) ?_
   unfold chkV;rw[h1];rfl
  | true=>
   cases h2:eqL y.to t.to with
   | false=>
    refine Runs.av ak mixed (t4 H hH E hE' S hS' s t a B m d ty2 x y g) ⟨by rw[h1];rfl,by rw[h2];rfl,trivial⟩ (iR H hH E hE' S hS' s t a B m d ty2 _) rfl fun g=>ay.ret (zr H hH E hE' S hS' s t a B m d ty2 _ _ g) ?_
    unfold chkV;rw[h1,h2];rfl
   | true=>
    refine Runs.av ak mixed (t5 H hH E hE' S hS' s t a B m d ty2 x y g) ⟨by rw[h1];rfl,by rw[h2];rfl,trivial⟩ (iR H hH E hE' S hS' s t a B m d ty2 _) rfl fun g=>ay.ret (zr H hH E hE' S hS' s t a B m d ty2 _ _ g) ?_
    unfold chkV;rw[h1,h2];rfl
 ·exact Runs.av ak mixed (t2 H hH E hE' S hS' s t a B m d ty2 x y g) trivial (iR H hH E hE' S hS' s t a B m d ty2 _) rfl fun g=>ay.ret (zr H hH E hE' S hS' s t a B m d ty2 _ _ g) rfl
theorem run (hH:H=hV) (E:B32) (hE':E=hE) (S:Nd→B32) (hS':S=hS) (s t:B32) (a:Option Addr) (B:List Lf) (m d:Nat) (ty2:TypeId) (hm:B.length=m) (hd:m≤d) (hB:AllL B) (hb:m≤4000000):aA Tryd.prog GT 1 body (aF fn [cB32.enc s,cB32.enc t,.o (.a (.v (.slice a 0 0))),.o (.a (.sld 0 0 0 m d))]) [⟨false,ty2,.prv (lvals B)⟩] (ay tys fn (aR (.o (.a (int1 .i64 (chkR H E S s t [] B)))) .none)):=by
 have dB:((lvals B).drop (0+0)).take (m*64)=lvals B:=dtl hm
 have lb:(lvals B).length=m*64:=by rw[←hm];exact bP B
 have hb':∀k,k≤4000000→k<aI:=fun k hk=>by unfold aI;omega
 unfold chkR
 rw[hm]
 have hx0:(aH H E S []).2=0:=rfl
 have hk:=amA_ok bg hB m (by omega)
 have hl:(amA [] B m).length=0+m:=by rw[amA_len];rfl
 rcases Nat.eq_zero_or_pos (0+m) with h0 | h0
 ·have hz:amA [] B m=[]:=List.eq_nil_of_length_eq_zero (by omega)
  have q:=sZ H hH E hE' S hS' s t a B m d ty2 (aH H E S []).1 (aH H E S []).2 (aH H E S (amA [] B m)).1 (aH H E S (amA [] B m)).2
  rw[dB,bG,show aj ((([]:List Value).drop (0+0)).take (0*65))=[] from dec0'] at q
  refine Runs.of_outNP ak mixed 4 [0,1,2,3,5] q ⟨rfl,rfl,by omega,hd,rfl,hm,hB,by omega,h0,by omega,Nat.le_refl _,rfl,rfl,hb' _ (by omega),bg,by rw[hz],trivial⟩ (i5 H hH E hE' S hS' s t a B m d ty2 _ _ _) (by kernel_rfl) fun g=> ?_
  exact tail H hH E hE' S hS' s t a B m d ty2 _ _ hx0 (root_01 H E S _) g
 ·have dA:((ah (amA [] B m)).drop (0+0)).take ((0+m)*65)=ah (amA [] B m):=dtn hl
  have q:=sP H hH E hE' S hS' s t a B m d ty2 (aH H E S []).1 (aH H E S []).2 (aH H E S (amA [] B m)).1 (aH H E S (amA [] B m)).2
  rw[dB,bG,dA,aK] at q
  refine Runs.of_outNP ak mixed 4 [0,1,2,3,5] q ⟨rfl,rfl,by omega,hd,rfl,hm,hB,by omega,h0,by rw[aL,hl];omega,Nat.le_refl _,rfl,hl,hb' _ (by omega),hk,rfl,trivial⟩ (i5 H hH E hE' S hS' s t a B m d ty2 _ _ _) (by kernel_rfl) fun g=> ?_
  exact tail H hH E hE' S hS' s t a B m d ty2 _ _ hx0 (root_01 H E S _) g
end
end nw
namespace nn
section
variable (H:Nd→Nd→B32)
def mo (hH:H=hV) (E:B32) (hE':E=hE) (S:Nd→B32) (hS':S=hS) (s t:B32) (a:Option Addr) (b:Option Addr):List Blk:=[]
def mf (hH:H=hV) (E:B32) (hE':E=hE) (S:Nd→B32) (hS':S=hS) (s t:B32) (a:Option Addr) (b:Option Addr) (x y:B32):List Blk:=[⟨true,24,.lit (cB32.row s)⟩,⟨true,24,.lit (cB32.row t)⟩,⟨true,24,.lit (cB32.row x)⟩,⟨true,24,.lit (cB32.row y)⟩]
def MR (hH:H=hV) (E:B32) (hE':E=hE) (S:Nd→B32) (hS':S=hS) (s t:B32) (a:Option Addr) (b:Option Addr) (e:Int):List (Option SV):=aD 38 0 [(8,.o (.a (int1 .i64 e)))]
theorem iR (hH:H=hV) (E:B32) (hE':E=hE) (S:Nd→B32) (hS':S=hS) (s t:B32) (a:Option Addr) (b:Option Addr) (e:Int):aC (mo H hH E hE' S hS' s t a b ).length (MR H hH E hE' S hS' s t a b e) (mo H hH E hE' S hS' s t a b )=true:=by kernel_rfl
def M5 (hH:H=hV) (E:B32) (hE':E=hE) (S:Nd→B32) (hS':S=hS) (s t:B32) (a:Option Addr) (b:Option Addr) (f:Int):List (Option SV):=aD 38 0 [(4,.o (.a (.ptr 0 0))),(5,.o (.a (.ptr 1 0))),(9,.o (.a (.ptr 2 0))),(11,.o (.a (.ptr 3 0))),(12,.o (.a (int1 .i64 f)))]
theorem i5 (hH:H=hV) (E:B32) (hE':E=hE) (S:Nd→B32) (hS':S=hS) (s t:B32) (a:Option Addr) (b:Option Addr) (f:Int) (x y:B32):aC (mf H hH E hE' S hS' s t a b x y).length (M5 H hH E hE' S hS' s t a b f) (mf H hH E hE' S hS' s t a b x y)=true:=by kernel_rfl
theorem sZ (hH:H=hV) (E:B32) (hE':E=hE) (S:Nd→B32) (hS':S=hS) (s t:B32) (a:Option Addr) (b:Option Addr) (x:B32) (e:Int) (y:B32) (f:Int):outN [0,1,2,4] (M5 H hH E hE' S hS' s t a b f) (exec (ΓZ H hH E hE' S hS' ) tys 100 (cpre 4 body) ⟨aF fn [cB32.enc s,cB32.enc t,.o (.a (.v (.slice a 0 0))),.o (.a (.v (.slice b 0 0)))],mo H hH E hE' S hS' s t a b ,[(14,[.s (aG.enc true)]),(18,[.s (hsS (x,e))]),(25,[.s (hsS (y,f))])]⟩)=some (.normal,(live (M5 H hH E hE' S hS' s t a b f)).map (SV.ren (piF [0,1,2,4])),(M5 H hH E hE' S hS' s t a b f).length,(mf H hH E hE' S hS' s t a b x y).map (fun b=>some (b.ren (piF [0,1,2,4]))),[aG.enc true=aG.enc true,hsS (E,0)=hsS (x,e),0+0+0*65≤0,0≤0,(([]:List Value).drop (0+0)).take (0*65)=ah (aj ((([]:List Value).drop (0+0)).take (0*65))),(aj ((([]:List Value).drop (0+0)).take (0*65))).length=0,0<aI,aB (aj ((([]:List Value).drop (0+0)).take (0*65))),hsS (aH H E S (aj ((([]:List Value).drop (0+0)).take (0*65))))=hsS (y,f)]):=by kernel_rfl
theorem t2 (hH:H=hV) (E:B32) (hE':E=hE) (S:Nd→B32) (hS':S=hS) (s t:B32) (a:Option Addr) (b:Option Addr) (x y:B32) (g:Nat→SV):outX (mo H hH E hE' S hS' s t a b ).length (MR H hH E hE' S hS' s t a b 1) (exec (ΓZ H hH E hE' S hS' ) tys 300 T ⟨fill g 0 (M5 H hH E hE' S hS' s t a b 1),mf H hH E hE' S hS' s t a b x y,[]⟩)=some (.ret,live (MR H hH E hE' S hS' s t a b 1),(MR H hH E hE' S hS' s t a b 1).length,mo H hH E hE' S hS' s t a b ,[]):=by kernel_rfl
theorem t3 (hH:H=hV) (E:B32) (hE':E=hE) (S:Nd→B32) (hS':S=hS) (s t:B32) (a:Option Addr) (b:Option Addr) (x y:B32) (g:Nat→SV):outX (mo H hH E hE' S hS' s t a b ).length (MR H hH E hE' S hS' s t a b 3) (exec (ΓZ H hH E hE' S hS' ) tys 300 T ⟨fill g 0 (M5 H hH E hE' S hS' s t a b 0),mf H hH E hE' S hS' s t a b x y,[(32,[.b true])]⟩)=some (.ret,live (MR H hH E hE' S hS' s t a b 3),(MR H hH E hE' S hS' s t a b 3).length,mo H hH E hE' S hS' s t a b ,[(!eqL x.to s.to)=true]):=by kernel_rfl
theorem t4 (hH:H=hV) (E:B32) (hE':E=hE) (S:Nd→B32) (hS':S=hS) (s t:B32) (a:Option Addr) (b:Option Addr) (x y:B32) (g:Nat→SV):outX (mo H hH E hE' S hS' s t a b ).length (MR H hH E hE' S hS' s t a b 3) (exec (ΓZ H hH E hE' S hS' ) tys 300 T ⟨fill g 0 (M5 H hH E hE' S hS' s t a b 0),mf H hH E hE' S hS' s t a b x y,[(32,[.b false]),(36,[.b true])]⟩)=some (.ret,live (MR H hH E hE' S hS' s t a b 3),(MR H hH E hE' S hS' s t a b 3).length,mo H hH E hE' S hS' s t a b ,[(!eqL x.to s.to)=false,(!eqL y.to t.to)=true]):=by kernel_rfl
theorem t5 (hH:H=hV) (E:B32) (hE':E=hE) (S:Nd→B32) (hS':S=hS) (s t:B32) (a:Option Addr) (b:Option Addr) (x y:B32) (g:Nat→SV):outX (mo H hH E hE' S hS' s t a b ).length (MR H hH E hE' S hS' s t a b 0) (exec (ΓZ H hH E hE' S hS' ) tys 300 T ⟨fill g 0 (M5 H hH E hE' S hS' s t a b 0),mf H hH E hE' S hS' s t a b x y,[(32,[.b false]),(36,[.b false])]⟩)=some (.ret,live (MR H hH E hE' S hS' s t a b 0),(MR H hH E hE' S hS' s t a b 0).length,mo H hH E hE' S hS' s t a b ,[(!eqL x.to s.to)=false,(!eqL y.to t.to)=false]):=by kernel_rfl
theorem zr (hH:H=hV) (E:B32) (hE':E=hE) (S:Nd→B32) (hS':S=hS) (s t:B32) (a:Option Addr) (b:Option Addr) (e:Int) (mm:Nat→Option Blk) (g:Nat→SV):eRes tys (fill g 0 (MR H hH E hE' S hS' s t a b e)) mm fn.results.toList=some [.a (int1 .i64 e)]:=by kernel_rfl
theorem tail (hH:H=hV) (E:B32) (hE':E=hE) (S:Nd→B32) (hS':S=hS) (s t:B32) (a:Option Addr) (b:Option Addr) (x y:B32 × Int) (hx:x.2=0) (hy:y.2=0∨y.2=1) (g:Nat→SV):aA Tryd.prog GT 0 T (fill g 0 (M5 H hH E hE' S hS' s t a b y.2)) (mf H hH E hE' S hS' s t a b x.1 y.1) (ay tys fn (aR (.o (.a (int1 .i64 (chkV x y s t)))) .none)):=by
 obtain⟨x,e⟩:=x
 obtain⟨y,f⟩:=y
 obtain rfl:e=0:=hx
 rcases hy with rfl | rfl
 ·cases h1:eqL x.to s.to with
  | false=>
   refine Runs.av ak mixed (t3 H hH E hE' S hS' s t a b x y g) ⟨by rw[h1];rfl,trivial⟩ (iR H hH E hE' S hS' s t a b _) rfl fun g=>ay.ret (zr H hH E hE' S hS' s t a b _ _ g) ?_
   unfold chkV;rw[h1];rfl
  | true=>
   cases h2:eqL y.to t.to with
   | false=>
    refine Runs.av ak mixed (t4 H hH E hE' S hS' s t a b x y g) ⟨by rw[h1];rfl,by rw[h2];rfl,trivial⟩ (iR H hH E hE' S hS' s t a b _) rfl fun g=>ay.ret (zr H hH E hE' S hS' s t a b _ _ g) ?_
    unfold chkV;rw[h1,h2];rfl
   | true=>
    refine Runs.av ak mixed (t5 H hH E hE' S hS' s t a b x y g) ⟨by rw[h1];rfl,by rw[h2];rfl,trivial⟩ (iR H hH E hE' S hS' s t a b _) rfl fun g=>ay.ret (zr H hH E hE' S hS' s t a b _ _ g) ?_
    unfold chkV;rw[h1,h2];rfl
 ·exact Runs.av ak mixed (t2 H hH E hE' S hS' s t a b x y g) trivial (iR H hH E hE' S hS' s t a b _) rfl fun g=>ay.ret (zr H hH E hE' S hS' s t a b _ _ g) rfl
theorem run (hH:H=hV) (E:B32) (hE':E=hE) (S:Nd→B32) (hS':S=hS) (s t:B32) (a:Option Addr) (b:Option Addr):aA Tryd.prog GT 0 body (aF fn [cB32.enc s,cB32.enc t,.o (.a (.v (.slice a 0 0))),.o (.a (.v (.slice b 0 0)))]) [] (ay tys fn (aR (.o (.a (int1 .i64 (chkR H E S s t [] [])))) .none)):=by
 have hb':∀k,k≤4000000→k<aI:=fun k hk=>by unfold aI;omega
 unfold chkR
 have hx0:(aH H E S []).2=0:=rfl
 have hk:=amA_ok bg aY 0 (by exact Nat.zero_le _)
 have hl:(amA [] [] 0).length=0+0:=by rw[amA_len];rfl
 have q:=sZ H hH E hE' S hS' s t a b (aH H E S []).1 (aH H E S []).2 (aH H E S (amA [] [] 0)).1 (aH H E S (amA [] [] 0)).2
 rw[show aj ((([]:List Value).drop (0+0)).take (0*65))=[] from dec0'] at q
 refine Runs.of_outNP ak mixed 4 [0,1,2,4] q ⟨rfl,rfl,by omega,Nat.le_refl _,rfl,rfl,hb' _ (by omega),bg,rfl,trivial⟩ (i5 H hH E hE' S hS' s t a b _ _ _) (by kernel_rfl) fun g=> ?_
 exact tail H hH E hE' S hS' s t a b _ _ hx0 (root_01 H E S _) g
end
end nn
noncomputable def spec (H:Nd→Nd→B32) (E:B32) (S:Nd→B32):List PArg→Option (SV × LEff × Cst)
 | [.val u,.val v,.winv _ vs n ty,.winv _ ws m ty2]=>match cB32.dec u,cB32.dec v with
  | some s,some t=>some (.o (.a (int1 .i64 (chkR H E S s t (aj vs) (au ws)))),.none,[vs=ah (aj vs),(aj vs).length=n,aB (aj vs),ws=lvals (au ws),(au ws).length=m,AllL (au ws),n+m≤4000000])
  | _,_=>none
 | [.val u,.val v,.winv _ vs n ty,.val (.o (.a (.v (.slice b 0 0))))]=>match cB32.dec u,cB32.dec v with
  | some s,some t=>some (.o (.a (int1 .i64 (chkR H E S s t (aj vs) []))),.none,[vs=ah (aj vs),(aj vs).length=n,aB (aj vs),n≤4000000])
  | _,_=>none
 | [.val u,.val v,.val (.o (.a (.v (.slice a 0 0)))),.winv _ ws m ty2]=>match cB32.dec u,cB32.dec v with
  | some s,some t=>some (.o (.a (int1 .i64 (chkR H E S s t [] (au ws)))),.none,[ws=lvals (au ws),(au ws).length=m,AllL (au ws),m≤4000000])
  | _,_=>none
 | [.val u,.val v,.val (.o (.a (.v (.slice a 0 0)))),.val (.o (.a (.v (.slice b 0 0))))]=>match cB32.dec u,cB32.dec v with
  | some s,some t=>some (.o (.a (int1 .i64 (chkR H E S s t [] []))),.none,[])
  | _,_=>none
 | _=>none
noncomputable def con (H:Nd→Nd→B32) (hH:H=hV) (E:B32) (hE':E=hE) (S:Nd→B32) (hS':S=hS):Con Tryd.prog GT:=Con.parts ak 48 fn Tryd.func48 (by kernel_rfl) (c:=body) (by kernel_rfl) [.val,.val,.winv 65,.winv 64] (spec H E S)
 (fun ps r e p h hp=>by
  unfold spec at h
  split at h
  ·split at h<;>cases h
   exact⟨rfl,fun b hb=>by simp only[aP,PArg.blk,List.append_nil,List.nil_append,List.cons_append,List.mem_cons,List.not_mem_nil,or_false] at hb;rcases hb with rfl | rfl<;>rfl⟩
  ·split at h<;>cases h
   exact⟨rfl,fun b hb=>by simp only[aP,PArg.blk,List.append_nil,List.nil_append,List.cons_append,List.mem_cons,List.not_mem_nil,or_false] at hb;rw[hb]⟩
  ·split at h<;>cases h
   exact⟨rfl,fun b hb=>by simp only[aP,PArg.blk,List.append_nil,List.nil_append,List.cons_append,List.mem_cons,List.not_mem_nil,or_false] at hb;rw[hb]⟩
  ·split at h<;>cases h
   exact⟨rfl,fun b hb=>by simp[aP,PArg.blk] at hb⟩
  ·cases h)
 (fun ps r e p cap h hp hi=>by
  unfold spec at h
  split at h
  ·rename_i u v s1 vs n ty s2 ws m ty2
   split at h<;>cases h
   rename_i s t k1 k2
   have e1:=cB32.ok _ _ k1
   have e2:=cB32.ok _ _ k2
   subst e1 e2
   obtain⟨p1,p2,p3,q1,q2,q3,hb,_⟩:=hp
   obtain⟨_,_,⟨_,hc1⟩,⟨_,hc2⟩,_⟩:=hi
   have q:=ww.run H hH E hE' S hS' s t (aj vs) n (cap 0) ty (au ws) m (cap 1) ty2 p2 hc1 p3 q2 hc2 q3 hb
   rw[←p1,←q1] at q
   exact q
  ·rename_i u v s1 vs n ty b
   split at h<;>cases h
   rename_i s t k1 k2
   have e1:=cB32.ok _ _ k1
   have e2:=cB32.ok _ _ k2
   subst e1 e2
   obtain⟨p1,p2,p3,hb,_⟩:=hp
   obtain⟨_,_,⟨_,hc1⟩,_⟩:=hi
   have q:=wn.run H hH E hE' S hS' s t (aj vs) n (cap 0) ty b p2 hc1 p3 hb
   rw[←p1] at q
   exact q
  ·rename_i u v a s2 ws m ty2
   split at h<;>cases h
   rename_i s t k1 k2
   have e1:=cB32.ok _ _ k1
   have e2:=cB32.ok _ _ k2
   subst e1 e2
   obtain⟨q1,q2,q3,hb,_⟩:=hp
   obtain⟨_,_,_,⟨_,hc2⟩,_⟩:=hi
   have q:=nw.run H hH E hE' S hS' s t a (au ws) m (cap 0) ty2 q2 hc2 q3 hb
   rw[←q1] at q
   exact q
  ·rename_i u v a b
   split at h<;>cases h
   rename_i s t k1 k2
   have e1:=cB32.ok _ _ k1
   have e2:=cB32.ok _ _ k2
   subst e1 e2
   have q:=nn.run H hH E hE' S hS' s t a b
   exact q
  ·cases h)
end rck
end Go.Proofs.YtdccehmekkcheaaDoor
