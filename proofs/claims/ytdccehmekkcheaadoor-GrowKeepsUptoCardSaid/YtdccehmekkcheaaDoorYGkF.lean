/- Package grow: Check: walk, contract. -/
import Derived.Test.YtdccehmekkcheaaDoorYFo
import Derived.Test.YtdccehmekkcheaaDoorYGsP
namespace Go.Proofs.YtdccehmekkcheaaDoor
open Go Go.Eng Go.RowKit
set_option linter.unusedVariables false
set_option linter.unusedSimpArgs false
set_option maxRecDepth 100000
def chkV (x y:B32 × Int) (s t:B32):Int:=bif x.2==0&&y.2==0 then (bif eqL x.1.to s.to&&eqL y.1.to t.to then 0 else 3) else 1
noncomputable def chkT (H:Nd→Nd→B32) (E:B32) (S:Nd→B32) (s t:B32) (V:List Nd) (B:List Lf):Int:=chkV (rootV H E S V) (rootV H E S (bC (V++tndV B))) s t
theorem root_01 (H:Nd→Nd→B32) (E:B32) (S:Nd→B32) (l:List Nd):(rootV H E S l).2=0∨(rootV H E S l).2=1:=by
 unfold rootV
 cases aM l with
 | true=>left;rw[cond_true];cases Nat.beq l.length 0<;>rfl
 | false=>right;rfl
theorem aN.app {A B:List Nd} (hA:aN A) (hB:aN B):aN (A++B):=fun z hz=>(List.mem_append.1 hz).elim (hA z) (hB z)
theorem aN.sort {A:List Nd} (hA:aN A):aN (bC A):=fun z hz=>hA z ((sortL_perm A).mem_iff.1 hz)
theorem aN.nil:aN []:=fun z hz=>by cases hz
namespace gck
noncomputable abbrev fn:=Tryd.f46
noncomputable def body:Code:=bG fn
noncomputable def R1:Code:=cs1 (csuf 1 body)
noncomputable def S2:Code:=csuf 2 body
noncomputable def T:Code:=csuf 3 S2
noncomputable def i1:Nat:=match R1 with | .region i _ _=>i | _=>0
theorem suf_1:csuf 1 body= .seq (.region i1 (opsOf R1) false) S2:=by kernel_rfl
theorem nil1:((opsOf R1).toList.drop 2).drop 4=[]:=by kernel_rfl
theorem nil0:(opsOf R1).toList.drop 6=[]:=by kernel_rfl
noncomputable def Γ1:Cons Tryd.prog GT:=[tnd.con]
noncomputable def Γ2 (H:Nd→Nd→B32) (hH:H=hV) (E:B32) (hE':E=hE) (S:Nd→B32) (hS':S=hS):Cons Tryd.prog GT:=[sort_con,trt.con H hH E hE' S hS' ]
namespace pw
section
variable (s t:B32) (V:List Nd) (ty:TypeId) (B:List Lf) (ty2:TypeId)
def m0:List Blk:=[⟨false,ty,.prv (ah V)⟩,⟨false,ty2,.prv (lvals B)⟩,⟨true,24,.lit (cB32.row s)⟩,⟨true,24,.lit (cB32.row t)⟩]
def m1 (us:List Value) (lo:Nat) (hi:Option Nat):List Blk:=[⟨false,ty,.prv (ah V)⟩,⟨false,ty2,.prv (lvals B)⟩,⟨true,24,.lit (cB32.row s)⟩,⟨true,24,.lit (cB32.row t)⟩,⟨true,33,.grv 65 us lo hi⟩]
def mf (x y:B32):List Blk:=[⟨false,ty,.prv (ah V)⟩,⟨false,ty2,.prv (lvals B)⟩,⟨true,24,.lit (cB32.row s)⟩,⟨true,24,.lit (cB32.row t)⟩,⟨true,24,.lit (cB32.row x)⟩,⟨true,24,.lit (cB32.row y)⟩]
end
def M0 (n c:Nat) (m d:Nat):List (Option SV):=aB 47 0 [(2,.o (.a (.sld 0 0 0 n c))),(3,.o (.a (.sld 1 0 0 m d))),(4,.o (.a (.ptr 2 0))),(5,.o (.a (.ptr 3 0)))]
theorem i0 (s t:B32) (V:List Nd) (n c:Nat) (ty:TypeId) (B:List Lf) (m d:Nat) (ty2:TypeId):oI (M0 n c m d) (m0 s t V ty B ty2):=by delta oI;kernel_rfl
def M2 (n c:Nat) (k:Nat):List (Option SV):=aB 47 0 [(2,.o (.a (.sld 0 0 0 n c))),(4,.o (.a (.ptr 2 0))),(5,.o (.a (.ptr 3 0))),(9,.o (.a (.slg 4 k)))]
theorem i2 (s t:B32) (V:List Nd) (n c:Nat) (ty:TypeId) (B:List Lf) (ty2:TypeId) (k:Nat) (us:List Value) (lo:Nat) (hi:Option Nat):oI (M2 n c k) (m1 s t V ty B ty2 us lo hi):=by delta oI;kernel_rfl
def M5 (e f:Int):List (Option SV):=aB 47 0 [(4,.o (.a (.ptr 2 0))),(5,.o (.a (.ptr 3 0))),(10,.o (.a (.ptr 4 0))),(11,.o (.a (int1 .i64 e))),(12,.o (.a (.ptr 5 0))),(13,.o (.a (int1 .i64 f)))]
theorem i5 (s t:B32) (V:List Nd) (ty:TypeId) (B:List Lf) (ty2:TypeId) (e f:Int) (x y:B32):oI (M5 e f) (mf s t V ty B ty2 x y):=by delta oI;kernel_rfl
def MR (e:Int):List (Option SV):=aB 47 0 [(8,.o (.a (int1 .i64 e)))]
def mo (V:List Nd) (ty:TypeId) (B:List Lf) (ty2:TypeId):List Blk:=[⟨false,ty,.prv (ah V)⟩,⟨false,ty2,.prv (lvals B)⟩]
theorem iR (V:List Nd) (ty:TypeId) (B:List Lf) (ty2:TypeId) (e:Int):oI (MR e) (mo V ty B ty2):=by delta oI;kernel_rfl
theorem s0 (s t:B32) (V:List Nd) (n c:Nat) (ty:TypeId) (B:List Lf) (m d:Nat) (ty2:TypeId):oX Γ1 300 (cpre 1 body) (aI fn [cB32.enc s,cB32.enc t,.o (.a (.sld 0 0 0 n c)),.o (.a (.sld 1 0 0 m d))]) [⟨false,ty,.prv (ah V)⟩,⟨false,ty2,.prv (lvals B)⟩] [] .normal (M0 n c m d) (m0 s t V ty B ty2) []:=by delta oX;kernel_rfl
def MP (n c:Nat) (m d:Nat):List (Option SV):=aB 47 0 [(2,.o (.a (.sld 0 0 0 n c))),(3,.o (.a (.sld 1 0 0 m d))),(4,.o (.a (.ptr 2 0))),(5,.o (.a (.ptr 3 0))),(15,.o (.a (.slg 4 n)))]
section
variable (s t:B32) (V:List Nd) (n c:Nat) (ty:TypeId) (B:List Lf) (m d:Nat) (ty2:TypeId)
theorem iP (us:List Value) (lo:Nat) (hi:Option Nat):oI (MP n c m d) (m1 s t V ty B ty2 us lo hi):=by delta oI;kernel_rfl
theorem c1 (g:Nat→SV):oU [0,1,2,3,4] Γ1 R1 0 2 (fill g 0 (M0 n c m d )) (m0 s t V ty B ty2) [] (MP n c m d) (m1 s t V ty B ty2 (((ah V).drop (0+0)).take (n*65)) n none) [0+0+n*65≤(ah V).length,0<n,Room Tryd.prog 33 n]:=by delta oU;kernel_rfl
end
theorem g (H:Nd→Nd→B32) (hH:H=hV) (E:B32) (hE':E=hE) (S:Nd→B32) (hS':S=hS) (s t:B32) (V:List Nd) (n c:Nat) (ty:TypeId) (B:List Lf) (m d:Nat) (ty2:TypeId) (us:List Value) (g:Nat→SV):oU [0,1,2,3,4] Γ1 R1 2 4 (fill g 0 (MP n c m d )) (m1 s t V ty B ty2 us (n+m) none) [(18,[.dyn])] (M2 n c (n+m)) (m1 s t V ty B ty2 (us++((ah (tndV (ak (((lvals B).drop (0+0)).take (m*64))))).drop (0+0)).take (m*65)) (n+m) none) [0+0+m*64≤(lvals B).length,m≤d,((lvals B).drop (0+0)).take (m*64)=lvals (ak (((lvals B).drop (0+0)).take (m*64))),(ak (((lvals B).drop (0+0)).take (m*64))).length=m,m≤4000000,AllL (ak (((lvals B).drop (0+0)).take (m*64))),0+0+m*65≤(ah (tndV (ak (((lvals B).drop (0+0)).take (m*64))))).length,n*65=us.length,n+m≤n+m,∀v∈((ah (tndV (ak (((lvals B).drop (0+0)).take (m*64))))).drop (0+0)).take (m*65),v.oneCell'=true]:=by delta oU;kernel_rfl
theorem r (H:Nd→Nd→B32) (hH:H=hV) (E:B32) (hE':E=hE) (S:Nd→B32) (hS':S=hS) (s t:B32) (V:List Nd) (n c:Nat) (ty:TypeId) (B:List Lf) (m d:Nat) (ty2:TypeId) (us:List Value) (lo:Nat) (g:Nat→SV):oU [0,1,2,3,6] Γ1 R1 2 4 (fill g 0 (MP n c m d )) (m1 s t V ty B ty2 us lo (some (n+m))) [(18,[.dyn])] (M2 n c (n+m)) (m1 s t V ty B ty2 (us++((ah (tndV (ak (((lvals B).drop (0+0)).take (m*64))))).drop (0+0)).take (m*65)) (n+m) none) [0+0+m*64≤(lvals B).length,m≤d,((lvals B).drop (0+0)).take (m*64)=lvals (ak (((lvals B).drop (0+0)).take (m*64))),(ak (((lvals B).drop (0+0)).take (m*64))).length=m,m≤4000000,AllL (ak (((lvals B).drop (0+0)).take (m*64))),0+0+m*65≤(ah (tndV (ak (((lvals B).drop (0+0)).take (m*64))))).length,n*65=us.length,n+m≤n+m,Room Tryd.prog 33 (n+m)]:=by delta oU;kernel_rfl
theorem b (H:Nd→Nd→B32) (hH:H=hV) (E:B32) (hE':E=hE) (S:Nd→B32) (hS':S=hS) (s t:B32) (V:List Nd) (n c:Nat) (ty:TypeId) (B:List Lf) (m d:Nat) (ty2:TypeId) (vs:List Value) (k:Nat) (x:B32) (e:Int) (y:B32) (f:Int) (g:Nat→SV):oN [0,1,2,3,5,6] (Γ2 H hH E hE' S hS') 100 (cpre 3 S2) (fill g 0 (M2 n c k)) (m1 s t V ty B ty2 vs k none) [(23,[.s (hsS (x,e))]),(28,[.s (hsS (y,f))])] .normal (M5 e f) (mf s t V ty B ty2 x y) [65=65,vs=ah (au vs),(au vs).length=k,k<4611686018427387904,0+0+n*65≤(ah V).length,n≤c,((ah V).drop (0+0)).take (n*65)=ah (au (((ah V).drop (0+0)).take (n*65))),(au (((ah V).drop (0+0)).take (n*65))).length=n,n<bg,aN (au (((ah V).drop (0+0)).take (n*65))),hsS (rootV H E S (au (((ah V).drop (0+0)).take (n*65))))=hsS (x,e),0+0+k*65≤(ah (bC (au vs))).length,k≤k,((ah (bC (au vs))).drop (0+0)).take (k*65)=ah (au (((ah (bC (au vs))).drop (0+0)).take (k*65))),(au (((ah (bC (au vs))).drop (0+0)).take (k*65))).length=k,k<bg,aN (au (((ah (bC (au vs))).drop (0+0)).take (k*65))),hsS (rootV H E S (au (((ah (bC (au vs))).drop (0+0)).take (k*65))))=hsS (y,f)]:=by delta oN;kernel_rfl
section
variable (s t:B32) (V:List Nd) (ty:TypeId) (B:List Lf) (ty2:TypeId) (x y:B32)
theorem t1 (f:Int) (g:Nat→SV):oX Γ1 300 T (fill g 0 (M5 1 f)) (mf s t V ty B ty2 x y) [] .ret (MR 1) (mo V ty B ty2) []:=by delta oX;kernel_rfl
theorem t2 (g:Nat→SV):oX Γ1 300 T (fill g 0 (M5 0 1)) (mf s t V ty B ty2 x y) [] .ret (MR 1) (mo V ty B ty2) []:=by delta oX;kernel_rfl
theorem t3 (g:Nat→SV):oX Γ1 300 T (fill g 0 (M5 0 0)) (mf s t V ty B ty2 x y) [(41,[.b true])] .ret (MR 3) (mo V ty B ty2) [(!eqL x.to s.to)=true]:=by delta oX;kernel_rfl
theorem t4 (g:Nat→SV):oX Γ1 300 T (fill g 0 (M5 0 0)) (mf s t V ty B ty2 x y) [(41,[.b false]),(45,[.b true])] .ret (MR 3) (mo V ty B ty2) [(!eqL x.to s.to)=false,(!eqL y.to t.to)=true]:=by delta oX;kernel_rfl
theorem t5 (g:Nat→SV):oX Γ1 300 T (fill g 0 (M5 0 0)) (mf s t V ty B ty2 x y) [(41,[.b false]),(45,[.b false])] .ret (MR 0) (mo V ty B ty2) [(!eqL x.to s.to)=false,(!eqL y.to t.to)=false]:=by delta oX;kernel_rfl
end
theorem zr (e:Int) (mm:Nat→Option Blk) (g:Nat→SV):eRes tys (fill g 0 (MR e)) mm fn.results.toList=some [.a (int1 .i64 e)]:=by kernel_rfl
theorem tail (H:Nd→Nd→B32) (hH:H=hV) (E:B32) (hE':E=hE) (S:Nd→B32) (hS':S=hS) (s t:B32) (V:List Nd) (n c:Nat) (ty:TypeId) (B:List Lf) (m d:Nat) (ty2:TypeId) (x y:B32 × Int) (hx:x.2=0∨x.2=1) (hy:y.2=0∨y.2=1) (g:Nat→SV):aC Tryd.prog GT 2 T (fill g 0 (M5 x.2 y.2)) (mf s t V ty B ty2 x.1 y.1) (aF tys fn (aT (.o (.a (int1 .i64 (chkV x y s t)))) .none)):=by
 obtain⟨x,e⟩:=x
 obtain⟨y,f⟩:=y
 rcases hx with rfl | rfl
 ·rcases hy with rfl | rfl
  ·cases h1:eqL x.to s.to with
   | false=>
    refine Runs.aA aj mixed (t3 s t V ty B ty2 x y g) ⟨by rw[h1];rfl,trivial⟩ (iR V ty B ty2 _) rfl fun g=>aF.ret (zr _ _ g) ?_
    unfold chkV;rw[h1];rfl
   | true=>
    cases h2:eqL y.to t.to with
    | false=>
     refine Runs.aA aj mixed (t4 s t V ty B ty2 x y g) ⟨by rw[h1];rfl,by rw[h2];rfl,trivial⟩ (iR V ty B ty2 _) rfl fun g=>aF.ret (zr _ _ g) ?_
     unfold chkV;rw[h1,h2];rfl
    | true=>
     refine Runs.aA aj mixed (t5 s t V ty B ty2 x y g) ⟨by rw[h1];rfl,by rw[h2];rfl,trivial⟩ (iR V ty B ty2 _) rfl fun g=>aF.ret (zr _ _ g) ?_
     unfold chkV;rw[h1,h2];rfl
  ·exact Runs.aA aj mixed (t2 s t V ty B ty2 x y g) trivial (iR V ty B ty2 _) rfl fun g=>aF.ret (zr _ _ g) rfl
 ·exact Runs.aA aj mixed (t1 s t V ty B ty2 x y f g) trivial (iR V ty B ty2 _) rfl fun g=>aF.ret (zr _ _ g) rfl
theorem back (H:Nd→Nd→B32) (hH:H=hV) (E:B32) (hE':E=hE) (S:Nd→B32) (hS':S=hS) (s t:B32) (V:List Nd) (n c:Nat) (ty:TypeId) (B:List Lf) (m d:Nat) (ty2:TypeId) (hn:V.length=n) (hc:n≤c) (hV':aN V) (hm:B.length=m) (hd:m≤d) (hB:AllL B) (hb:n+m≤4000000) (h0:0<n) (U:List Nd) (k:Nat) (hk':aN U) (hk2:U.length=k) (hk3:k≤4000000) (g:Nat→SV):aC Tryd.prog GT 2 S2 (fill g 0 (M2 n c k)) (m1 s t V ty B ty2 (ah U) k none) (aF tys fn (aT (.o (.a (int1 .i64 (chkV (rootV H E S V) (rootV H E S (bC U)) s t)))) .none)):=by
 have dN:((ah V).drop (0+0)).take (n*65)=ah V:=dtn hn
 have ln:(ah V).length=n*65:=by rw[←hn];exact aV V
 have dB:((lvals B).drop (0+0)).take (m*64)=lvals B:=dtl hm
 have lb:(lvals B).length=m*64:=by rw[←hm];exact aU B
 have lt:(tndV B).length=m:=by rw[tnd_len,hm]
 have lz:(ah (tndV B)).length=m*65:=by rw[aV,lt]
 have dT:((ah (tndV B)).drop (0+0)).take (m*65)=ah (tndV B):=dtn lt
 have hk:=tnd_ok hB
 have ls:(bC U).length=k:=by rw[sortL_len,hk2]
 have dS:((ah (bC U)).drop (0+0)).take (k*65)=ah (bC U):=dtn ls
 have q:=b H hH E hE' S hS' s t V n c ty B m d ty2 (ah U) k (rootV H E S V).1 (rootV H E S V).2 (rootV H E S (bC U)).1 (rootV H E S (bC U)).2 g
 rw[aO,dS,aO,dN,aO] at q
 refine Runs.of_outNP aj mixed 3 [0,1,2,3,5,6] q ⟨rfl,rfl,hk2,by omega,by omega,hc,rfl,hn,by unfold bg;omega,hV',rfl,by rw[aV,ls];omega,Nat.le_refl _,rfl,ls,by unfold bg;omega,hk'.sort,rfl,trivial⟩ (i5 s t V ty B ty2 _ _ _ _) (by kernel_rfl) fun g=> ?_
 exact tail H hH E hE' S hS' s t V n c ty B m d ty2 _ _ (root_01 H E S _) (root_01 H E S _) g
theorem run (H:Nd→Nd→B32) (hH:H=hV) (E:B32) (hE':E=hE) (S:Nd→B32) (hS':S=hS) (s t:B32) (V:List Nd) (n c:Nat) (ty:TypeId) (B:List Lf) (m d:Nat) (ty2:TypeId) (hn:V.length=n) (hc:n≤c) (hV':aN V) (hm:B.length=m) (hd:m≤d) (hB:AllL B) (hb:n+m≤4000000) (h0:0<n):aC Tryd.prog GT 2 body (aI fn [cB32.enc s,cB32.enc t,.o (.a (.sld 0 0 0 n c)),.o (.a (.sld 1 0 0 m d))]) [⟨false,ty,.prv (ah V)⟩,⟨false,ty2,.prv (lvals B)⟩] (aF tys fn (aT (.o (.a (int1 .i64 (chkT H E S s t V B)))) .none)):=by
 have dN:((ah V).drop (0+0)).take (n*65)=ah V:=dtn hn
 have ln:(ah V).length=n*65:=by rw[←hn];exact aV V
 have dB:((lvals B).drop (0+0)).take (m*64)=lvals B:=dtl hm
 have lb:(lvals B).length=m*64:=by rw[←hm];exact aU B
 have lt:(tndV B).length=m:=by rw[tnd_len,hm]
 have lz:(ah (tndV B)).length=m*65:=by rw[aV,lt]
 have dT:((ah (tndV B)).drop (0+0)).take (m*65)=ah (tndV B):=dtn lt
 have hk:=tnd_ok hB
 refine Runs.aW aj mixed 1 (s0 s t V n c ty B m d ty2) trivial (i0 s t V n c ty B m d ty2) rfl fun g=> ?_
 rw[suf_1]
 refine Runs.seq (Runs.region ?_)
 unfold chkT
 refine aJ.aH aj 2 [0,1,2,3,4] (c1 s t V n c ty B m d ty2 g) ⟨by omega,h0,roomN n (by omega),trivial⟩ (iP s t V n c ty B m d ty2 _ _ _) rfl fun g'=> ?_
 rw[dN]
 refine aJ.roomV 4 (n+m) (own:=true) (ty:=33) (s:=65) (vs:=ah V) (lo:=n) rfl ?_ ?_
 ·have q:=pw.g H hH E hE' S hS' s t V n c ty B m d ty2 (ah V) g'
  rw[dB,aP,dT] at q
  refine aJ.aH aj 4 [0,1,2,3,4] q ⟨by omega,hd,rfl,hm,by omega,hB,by omega,by omega,Nat.le_refl _,oneVs _,trivial⟩ (i2 s t V n c ty B ty2 _ _ _ _) rfl fun g=> ?_
  rw[nil1,←nvals_app]
  exact aJ.nil (back H hH E hE' S hS' s t V n c ty B m d ty2 hn hc hV' hm hd hB hb h0 (V++tndV B) (n+m) (hV'.app hk) (by rw[List.length_append,hn,lt]) hb g)
 ·have q:=pw.r H hH E hE' S hS' s t V n c ty B m d ty2 (ah V) n g'
  rw[dB,aP,dT] at q
  refine aJ.aH aj 4 [0,1,2,3,6] q ⟨by omega,hd,rfl,hm,by omega,hB,by omega,by omega,Nat.le_refl _,roomN _ hb,trivial⟩ (i2 s t V n c ty B ty2 _ _ _ _) rfl fun g=> ?_
  rw[nil1,←nvals_app]
  exact aJ.nil (back H hH E hE' S hS' s t V n c ty B m d ty2 hn hc hV' hm hd hB hb h0 (V++tndV B) (n+m) (hV'.app hk) (by rw[List.length_append,hn,lt]) hb g)
end pw
namespace zw
section
variable (s t:B32) (V:List Nd) (ty:TypeId) (B:List Lf) (ty2:TypeId)
def m0:List Blk:=[⟨false,ty,.prv (ah V)⟩,⟨false,ty2,.prv (lvals B)⟩,⟨true,24,.lit (cB32.row s)⟩,⟨true,24,.lit (cB32.row t)⟩]
def m1 (us:List Value) (lo:Nat) (hi:Option Nat):List Blk:=[⟨false,ty,.prv (ah V)⟩,⟨false,ty2,.prv (lvals B)⟩,⟨true,24,.lit (cB32.row s)⟩,⟨true,24,.lit (cB32.row t)⟩,⟨true,33,.grv 65 us lo hi⟩]
def mf (x y:B32):List Blk:=[⟨false,ty,.prv (ah V)⟩,⟨false,ty2,.prv (lvals B)⟩,⟨true,24,.lit (cB32.row s)⟩,⟨true,24,.lit (cB32.row t)⟩,⟨true,24,.lit (cB32.row x)⟩,⟨true,24,.lit (cB32.row y)⟩]
end
def M0 (n c:Nat) (m d:Nat):List (Option SV):=aB 47 0 [(2,.o (.a (.sld 0 0 0 n c))),(3,.o (.a (.sld 1 0 0 m d))),(4,.o (.a (.ptr 2 0))),(5,.o (.a (.ptr 3 0)))]
theorem i0 (s t:B32) (V:List Nd) (n c:Nat) (ty:TypeId) (B:List Lf) (m d:Nat) (ty2:TypeId):oI (M0 n c m d) (m0 s t V ty B ty2):=by delta oI;kernel_rfl
def M2 (n c:Nat) (k:Nat):List (Option SV):=aB 47 0 [(2,.o (.a (.sld 0 0 0 n c))),(4,.o (.a (.ptr 2 0))),(5,.o (.a (.ptr 3 0))),(9,.o (.a (.slg 4 k)))]
theorem i2 (s t:B32) (V:List Nd) (n c:Nat) (ty:TypeId) (B:List Lf) (ty2:TypeId) (k:Nat) (us:List Value) (lo:Nat) (hi:Option Nat):oI (M2 n c k) (m1 s t V ty B ty2 us lo hi):=by delta oI;kernel_rfl
def Mz (n c:Nat):List (Option SV):=aB 47 0 [(2,.o (.a (.sld 0 0 0 n c))),(4,.o (.a (.ptr 2 0))),(5,.o (.a (.ptr 3 0))),(9,.o (.a (.v (.slice none 0 0))))]
theorem iz (s t:B32) (V:List Nd) (n c:Nat) (ty:TypeId) (B:List Lf) (ty2:TypeId):oI (Mz n c) (m0 s t V ty B ty2):=by delta oI;kernel_rfl
def M5 (e f:Int):List (Option SV):=aB 47 0 [(4,.o (.a (.ptr 2 0))),(5,.o (.a (.ptr 3 0))),(10,.o (.a (.ptr 4 0))),(11,.o (.a (int1 .i64 e))),(12,.o (.a (.ptr 5 0))),(13,.o (.a (int1 .i64 f)))]
theorem i5 (s t:B32) (V:List Nd) (ty:TypeId) (B:List Lf) (ty2:TypeId) (e f:Int) (x y:B32):oI (M5 e f) (mf s t V ty B ty2 x y):=by delta oI;kernel_rfl
def MR (e:Int):List (Option SV):=aB 47 0 [(8,.o (.a (int1 .i64 e)))]
def mo (V:List Nd) (ty:TypeId) (B:List Lf) (ty2:TypeId):List Blk:=[⟨false,ty,.prv (ah V)⟩,⟨false,ty2,.prv (lvals B)⟩]
theorem iR (V:List Nd) (ty:TypeId) (B:List Lf) (ty2:TypeId) (e:Int):oI (MR e) (mo V ty B ty2):=by delta oI;kernel_rfl
theorem s0 (s t:B32) (V:List Nd) (n c:Nat) (ty:TypeId) (B:List Lf) (m d:Nat) (ty2:TypeId):oX Γ1 300 (cpre 1 body) (aI fn [cB32.enc s,cB32.enc t,.o (.a (.sld 0 0 0 n c)),.o (.a (.sld 1 0 0 m d))]) [⟨false,ty,.prv (ah V)⟩,⟨false,ty2,.prv (lvals B)⟩] [] .normal (M0 n c m d) (m0 s t V ty B ty2) []:=by delta oX;kernel_rfl
theorem q (H:Nd→Nd→B32) (hH:H=hV) (E:B32) (hE':E=hE) (S:Nd→B32) (hS':S=hS) (s t:B32) (V:List Nd) (n c:Nat) (ty:TypeId) (B:List Lf) (m d:Nat) (ty2:TypeId) (g:Nat→SV):oU [0,1,2,3,5] Γ1 R1 0 6 (fill g 0 (M0 n c m d )) (m0 s t V ty B ty2) [(15,[.dyn])] (M2 n c m) (m1 s t V ty B ty2 (((ah (tndV (ak (((lvals B).drop (0+0)).take (m*64))))).drop (0+0)).take (m*65)) m none) [0+0+n*65≤(ah V).length,n=0,0+0+m*64≤(lvals B).length,m≤d,((lvals B).drop (0+0)).take (m*64)=lvals (ak (((lvals B).drop (0+0)).take (m*64))),(ak (((lvals B).drop (0+0)).take (m*64))).length=m,m≤4000000,AllL (ak (((lvals B).drop (0+0)).take (m*64))),0+0+m*65≤(ah (tndV (ak (((lvals B).drop (0+0)).take (m*64))))).length,0<m,Room Tryd.prog 33 m]:=by delta oU;kernel_rfl
theorem z (H:Nd→Nd→B32) (hH:H=hV) (E:B32) (hE':E=hE) (S:Nd→B32) (hS':S=hS) (s t:B32) (V:List Nd) (n c:Nat) (ty:TypeId) (B:List Lf) (m d:Nat) (ty2:TypeId) (g:Nat→SV):oU [0,1,2,3] Γ1 R1 0 6 (fill g 0 (M0 n c m d )) (m0 s t V ty B ty2) [(15,[.dyn]),(18,[.dyn])] (Mz n c) (m0 s t V ty B ty2) [0+0+n*65≤(ah V).length,n=0,0+0+m*64≤(lvals B).length,m≤d,((lvals B).drop (0+0)).take (m*64)=lvals (ak (((lvals B).drop (0+0)).take (m*64))),(ak (((lvals B).drop (0+0)).take (m*64))).length=m,m≤4000000,AllL (ak (((lvals B).drop (0+0)).take (m*64))),0+0+m*65≤(ah (tndV (ak (((lvals B).drop (0+0)).take (m*64))))).length,m=0]:=by delta oU;kernel_rfl
section
variable (H:Nd→Nd→B32) (hH:H=hV) (E:B32) (hE':E=hE) (S:Nd→B32) (hS':S=hS) (s t:B32) (V:List Nd) (n c:Nat) (ty:TypeId) (B:List Lf)
theorem b (m d:Nat) (ty2:TypeId) (vs:List Value) (k:Nat) (x:B32) (e:Int) (y:B32) (f:Int) (g:Nat→SV):oN [0,1,2,3,5,6] (Γ2 H hH E hE' S hS') 100 (cpre 3 S2) (fill g 0 (M2 n c k)) (m1 s t V ty B ty2 vs k none) [(23,[.s (hsS (x,e))]),(28,[.s (hsS (y,f))])] .normal (M5 e f) (mf s t V ty B ty2 x y) [65=65,vs=ah (au vs),(au vs).length=k,k<4611686018427387904,0+0+n*65≤(ah V).length,n≤c,((ah V).drop (0+0)).take (n*65)=ah (au (((ah V).drop (0+0)).take (n*65))),(au (((ah V).drop (0+0)).take (n*65))).length=n,n<bg,aN (au (((ah V).drop (0+0)).take (n*65))),hsS (rootV H E S (au (((ah V).drop (0+0)).take (n*65))))=hsS (x,e),0+0+k*65≤(ah (bC (au vs))).length,k≤k,((ah (bC (au vs))).drop (0+0)).take (k*65)=ah (au (((ah (bC (au vs))).drop (0+0)).take (k*65))),(au (((ah (bC (au vs))).drop (0+0)).take (k*65))).length=k,k<bg,aN (au (((ah (bC (au vs))).drop (0+0)).take (k*65))),hsS (rootV H E S (au (((ah (bC (au vs))).drop (0+0)).take (k*65))))=hsS (y,f)]:=by delta oN;kernel_rfl
theorem bz (ty2:TypeId) (x:B32) (e:Int) (y:B32) (f:Int) (g:Nat→SV):oN [0,1,2,3,4,5] (Γ2 H hH E hE' S hS') 100 (cpre 3 S2) (fill g 0 (Mz n c )) (m0 s t V ty B ty2) [(23,[.s (hsS (x,e))]),(28,[.s (hsS (y,f))])] .normal (M5 e f) (mf s t V ty B ty2 x y) [0+0+n*65≤(ah V).length,n≤c,((ah V).drop (0+0)).take (n*65)=ah (au (((ah V).drop (0+0)).take (n*65))),(au (((ah V).drop (0+0)).take (n*65))).length=n,n<bg,aN (au (((ah V).drop (0+0)).take (n*65))),hsS (rootV H E S (au (((ah V).drop (0+0)).take (n*65))))=hsS (x,e),hsS (E,0)=hsS (y,f)]:=by delta oN;kernel_rfl
end
section
variable (s t:B32) (V:List Nd) (ty:TypeId) (B:List Lf) (ty2:TypeId) (x y:B32)
theorem t1 (f:Int) (g:Nat→SV):oX Γ1 300 T (fill g 0 (M5 1 f)) (mf s t V ty B ty2 x y) [] .ret (MR 1) (mo V ty B ty2) []:=by delta oX;kernel_rfl
theorem t2 (g:Nat→SV):oX Γ1 300 T (fill g 0 (M5 0 1)) (mf s t V ty B ty2 x y) [] .ret (MR 1) (mo V ty B ty2) []:=by delta oX;kernel_rfl
theorem t3 (g:Nat→SV):oX Γ1 300 T (fill g 0 (M5 0 0)) (mf s t V ty B ty2 x y) [(41,[.b true])] .ret (MR 3) (mo V ty B ty2) [(!eqL x.to s.to)=true]:=by delta oX;kernel_rfl
theorem t4 (g:Nat→SV):oX Γ1 300 T (fill g 0 (M5 0 0)) (mf s t V ty B ty2 x y) [(41,[.b false]),(45,[.b true])] .ret (MR 3) (mo V ty B ty2) [(!eqL x.to s.to)=false,(!eqL y.to t.to)=true]:=by delta oX;kernel_rfl
theorem t5 (g:Nat→SV):oX Γ1 300 T (fill g 0 (M5 0 0)) (mf s t V ty B ty2 x y) [(41,[.b false]),(45,[.b false])] .ret (MR 0) (mo V ty B ty2) [(!eqL x.to s.to)=false,(!eqL y.to t.to)=false]:=by delta oX;kernel_rfl
end
theorem zr (e:Int) (mm:Nat→Option Blk) (g:Nat→SV):eRes tys (fill g 0 (MR e)) mm fn.results.toList=some [.a (int1 .i64 e)]:=by kernel_rfl
theorem tail (H:Nd→Nd→B32) (hH:H=hV) (E:B32) (hE':E=hE) (S:Nd→B32) (hS':S=hS) (s t:B32) (V:List Nd) (n c:Nat) (ty:TypeId) (B:List Lf) (m d:Nat) (ty2:TypeId) (x y:B32 × Int) (hx:x.2=0∨x.2=1) (hy:y.2=0∨y.2=1) (g:Nat→SV):aC Tryd.prog GT 2 T (fill g 0 (M5 x.2 y.2)) (mf s t V ty B ty2 x.1 y.1) (aF tys fn (aT (.o (.a (int1 .i64 (chkV x y s t)))) .none)):=by
 obtain⟨x,e⟩:=x
 obtain⟨y,f⟩:=y
 rcases hx with rfl | rfl
 ·rcases hy with rfl | rfl
  ·cases h1:eqL x.to s.to with
   | false=>
    refine Runs.aA aj mixed (t3 s t V ty B ty2 x y g) ⟨by rw[h1];rfl,trivial⟩ (iR V ty B ty2 _) rfl fun g=>aF.ret (zr _ _ g) ?_
    unfold chkV;rw[h1];rfl
   | true=>
    cases h2:eqL y.to t.to with
    | false=>
     refine Runs.aA aj mixed (t4 s t V ty B ty2 x y g) ⟨by rw[h1];rfl,by rw[h2];rfl,trivial⟩ (iR V ty B ty2 _) rfl fun g=>aF.ret (zr _ _ g) ?_
     unfold chkV;rw[h1,h2];rfl
    | true=>
     refine Runs.aA aj mixed (t5 s t V ty B ty2 x y g) ⟨by rw[h1];rfl,by rw[h2];rfl,trivial⟩ (iR V ty B ty2 _) rfl fun g=>aF.ret (zr _ _ g) ?_
     unfold chkV;rw[h1,h2];rfl
  ·exact Runs.aA aj mixed (t2 s t V ty B ty2 x y g) trivial (iR V ty B ty2 _) rfl fun g=>aF.ret (zr _ _ g) rfl
 ·exact Runs.aA aj mixed (t1 s t V ty B ty2 x y f g) trivial (iR V ty B ty2 _) rfl fun g=>aF.ret (zr _ _ g) rfl
theorem back (H:Nd→Nd→B32) (hH:H=hV) (E:B32) (hE':E=hE) (S:Nd→B32) (hS':S=hS) (s t:B32) (V:List Nd) (n c:Nat) (ty:TypeId) (B:List Lf) (m d:Nat) (ty2:TypeId) (hn:V.length=n) (hc:n≤c) (hV':aN V) (hm:B.length=m) (hd:m≤d) (hB:AllL B) (hb:n+m≤4000000) (h0:n=0) (U:List Nd) (k:Nat) (hk':aN U) (hk2:U.length=k) (hk3:k≤4000000) (g:Nat→SV):aC Tryd.prog GT 2 S2 (fill g 0 (M2 n c k)) (m1 s t V ty B ty2 (ah U) k none) (aF tys fn (aT (.o (.a (int1 .i64 (chkV (rootV H E S V) (rootV H E S (bC U)) s t)))) .none)):=by
 have dN:((ah V).drop (0+0)).take (n*65)=ah V:=dtn hn
 have ln:(ah V).length=n*65:=by rw[←hn];exact aV V
 have dB:((lvals B).drop (0+0)).take (m*64)=lvals B:=dtl hm
 have lb:(lvals B).length=m*64:=by rw[←hm];exact aU B
 have lt:(tndV B).length=m:=by rw[tnd_len,hm]
 have lz:(ah (tndV B)).length=m*65:=by rw[aV,lt]
 have dT:((ah (tndV B)).drop (0+0)).take (m*65)=ah (tndV B):=dtn lt
 have hk:=tnd_ok hB
 have ls:(bC U).length=k:=by rw[sortL_len,hk2]
 have dS:((ah (bC U)).drop (0+0)).take (k*65)=ah (bC U):=dtn ls
 have q:=b H hH E hE' S hS' s t V n c ty B m d ty2 (ah U) k (rootV H E S V).1 (rootV H E S V).2 (rootV H E S (bC U)).1 (rootV H E S (bC U)).2 g
 rw[aO,dS,aO,dN,aO] at q
 refine Runs.of_outNP aj mixed 3 [0,1,2,3,5,6] q ⟨rfl,rfl,hk2,by omega,by omega,hc,rfl,hn,by unfold bg;omega,hV',rfl,by rw[aV,ls];omega,Nat.le_refl _,rfl,ls,by unfold bg;omega,hk'.sort,rfl,trivial⟩ (i5 s t V ty B ty2 _ _ _ _) (by kernel_rfl) fun g=> ?_
 exact tail H hH E hE' S hS' s t V n c ty B m d ty2 _ _ (root_01 H E S _) (root_01 H E S _) g
theorem backz (H:Nd→Nd→B32) (hH:H=hV) (E:B32) (hE':E=hE) (S:Nd→B32) (hS':S=hS) (s t:B32) (V:List Nd) (n c:Nat) (ty:TypeId) (B:List Lf) (m d:Nat) (ty2:TypeId) (hn:V.length=n) (hc:n≤c) (hV':aN V) (hm:B.length=m) (hd:m≤d) (hB:AllL B) (hb:n+m≤4000000) (h0:n=0) (g:Nat→SV):aC Tryd.prog GT 2 S2 (fill g 0 (Mz n c)) (m0 s t V ty B ty2) (aF tys fn (aT (.o (.a (int1 .i64 (chkV (rootV H E S V) (E,0) s t)))) .none)):=by
 have dN:((ah V).drop (0+0)).take (n*65)=ah V:=dtn hn
 have ln:(ah V).length=n*65:=by rw[←hn];exact aV V
 have dB:((lvals B).drop (0+0)).take (m*64)=lvals B:=dtl hm
 have lb:(lvals B).length=m*64:=by rw[←hm];exact aU B
 have lt:(tndV B).length=m:=by rw[tnd_len,hm]
 have lz:(ah (tndV B)).length=m*65:=by rw[aV,lt]
 have dT:((ah (tndV B)).drop (0+0)).take (m*65)=ah (tndV B):=dtn lt
 have hk:=tnd_ok hB
 have q:=bz H hH E hE' S hS' s t V n c ty B ty2 (rootV H E S V).1 (rootV H E S V).2 E 0 g
 rw[dN,aO] at q
 refine Runs.of_outNP aj mixed 3 [0,1,2,3,4,5] q ⟨by omega,hc,rfl,hn,by unfold bg;omega,hV',rfl,rfl,trivial⟩ (i5 s t V ty B ty2 _ _ _ _) (by kernel_rfl) fun g=> ?_
 exact tail H hH E hE' S hS' s t V n c ty B m d ty2 (rootV H E S V) (E,0) (root_01 H E S _) (.inl rfl) g
theorem run (H:Nd→Nd→B32) (hH:H=hV) (E:B32) (hE':E=hE) (S:Nd→B32) (hS':S=hS) (s t:B32) (V:List Nd) (n c:Nat) (ty:TypeId) (B:List Lf) (m d:Nat) (ty2:TypeId) (hn:V.length=n) (hc:n≤c) (hV':aN V) (hm:B.length=m) (hd:m≤d) (hB:AllL B) (hb:n+m≤4000000) (h0:n=0):aC Tryd.prog GT 2 body (aI fn [cB32.enc s,cB32.enc t,.o (.a (.sld 0 0 0 n c)),.o (.a (.sld 1 0 0 m d))]) [⟨false,ty,.prv (ah V)⟩,⟨false,ty2,.prv (lvals B)⟩] (aF tys fn (aT (.o (.a (int1 .i64 (chkT H E S s t V B)))) .none)):=by
 have dN:((ah V).drop (0+0)).take (n*65)=ah V:=dtn hn
 have ln:(ah V).length=n*65:=by rw[←hn];exact aV V
 have dB:((lvals B).drop (0+0)).take (m*64)=lvals B:=dtl hm
 have lb:(lvals B).length=m*64:=by rw[←hm];exact aU B
 have lt:(tndV B).length=m:=by rw[tnd_len,hm]
 have lz:(ah (tndV B)).length=m*65:=by rw[aV,lt]
 have dT:((ah (tndV B)).drop (0+0)).take (m*65)=ah (tndV B):=dtn lt
 have hk:=tnd_ok hB
 refine Runs.aW aj mixed 1 (s0 s t V n c ty B m d ty2) trivial (i0 s t V n c ty B m d ty2) rfl fun g=> ?_
 rw[suf_1]
 refine Runs.seq (Runs.region ?_)
 unfold chkT
 obtain rfl:V=[]:=List.eq_nil_of_length_eq_zero (by omega)
 rcases Nat.eq_zero_or_pos m with h1 | h1
 ·obtain rfl:B=[]:=List.eq_nil_of_length_eq_zero (by omega)
  have q:=z H hH E hE' S hS' s t [] n c ty [] m d ty2 g
  rw[dB,aP] at q
  refine aJ.aH aj 6 [0,1,2,3] q ⟨by omega,h0,by omega,hd,rfl,hm,by omega,hB,by omega,h1,trivial⟩ (iz s t [] n c ty [] ty2) rfl fun g=> ?_
  rw[nil0,tnd_nil,List.append_nil,show bC []=[] from List.eq_nil_of_length_eq_zero (sortL_len []),show rootV H E S []=(E,0) from rfl]
  exact aJ.nil (backz H hH E hE' S hS' s t [] n c ty [] m d ty2 hn hc hV' hm hd hB hb h0 g)
 ·have q:=zw.q H hH E hE' S hS' s t [] n c ty B m d ty2 g
  rw[dB,aP,dT] at q
  refine aJ.aH aj 6 [0,1,2,3,5] q ⟨by omega,h0,by omega,hd,rfl,hm,by omega,hB,by omega,h1,roomN m (by omega),trivial⟩ (i2 s t [] n c ty B ty2 _ _ _ _) rfl fun g=> ?_
  rw[nil0,List.nil_append]
  exact aJ.nil (back H hH E hE' S hS' s t [] n c ty B m d ty2 hn hc hV' hm hd hB hb h0 (tndV B) m hk lt (by omega) g)
end zw
namespace nw
def m0 (s t:B32) (B:List Lf) (ty2:TypeId):List Blk:=[⟨false,ty2,.prv (lvals B)⟩,⟨true,24,.lit (cB32.row s)⟩,⟨true,24,.lit (cB32.row t)⟩]
def m1 (s t:B32) (B:List Lf) (ty2:TypeId) (us:List Value) (lo:Nat) (hi:Option Nat):List Blk:=[⟨false,ty2,.prv (lvals B)⟩,⟨true,24,.lit (cB32.row s)⟩,⟨true,24,.lit (cB32.row t)⟩,⟨true,33,.grv 65 us lo hi⟩]
def mf (s t:B32) (B:List Lf) (ty2:TypeId) (x y:B32):List Blk:=[⟨false,ty2,.prv (lvals B)⟩,⟨true,24,.lit (cB32.row s)⟩,⟨true,24,.lit (cB32.row t)⟩,⟨true,24,.lit (cB32.row x)⟩,⟨true,24,.lit (cB32.row y)⟩]
def M0 (a:Option Addr) (m d:Nat):List (Option SV):=aB 47 0 [(2,.o (.a (.v (.slice a 0 0)))),(3,.o (.a (.sld 0 0 0 m d))),(4,.o (.a (.ptr 1 0))),(5,.o (.a (.ptr 2 0)))]
theorem i0 (s t:B32) (a:Option Addr) (B:List Lf) (m d:Nat) (ty2:TypeId):oI (M0 a m d) (m0 s t B ty2):=by delta oI;kernel_rfl
def M2 (a:Option Addr) (k:Nat):List (Option SV):=aB 47 0 [(2,.o (.a (.v (.slice a 0 0)))),(4,.o (.a (.ptr 1 0))),(5,.o (.a (.ptr 2 0))),(9,.o (.a (.slg 3 k)))]
theorem i2 (s t:B32) (a:Option Addr) (B:List Lf) (ty2:TypeId) (k:Nat) (us:List Value) (lo:Nat) (hi:Option Nat):oI (M2 a k) (m1 s t B ty2 us lo hi):=by delta oI;kernel_rfl
def Mz (a:Option Addr):List (Option SV):=aB 47 0 [(2,.o (.a (.v (.slice a 0 0)))),(4,.o (.a (.ptr 1 0))),(5,.o (.a (.ptr 2 0))),(9,.o (.a (.v (.slice none 0 0))))]
theorem iz (s t:B32) (a:Option Addr) (B:List Lf) (ty2:TypeId):oI (Mz a) (m0 s t B ty2):=by delta oI;kernel_rfl
def M5 (a:Option Addr) (e f:Int):List (Option SV):=aB 47 0 [(4,.o (.a (.ptr 1 0))),(5,.o (.a (.ptr 2 0))),(10,.o (.a (.ptr 3 0))),(11,.o (.a (int1 .i64 e))),(12,.o (.a (.ptr 4 0))),(13,.o (.a (int1 .i64 f)))]
theorem i5 (s t:B32) (a:Option Addr) (B:List Lf) (ty2:TypeId) (e f:Int) (x y:B32):oI (M5 a e f) (mf s t B ty2 x y):=by delta oI;kernel_rfl
def MR (a:Option Addr) (e:Int):List (Option SV):=aB 47 0 [(8,.o (.a (int1 .i64 e)))]
def mo (B:List Lf) (ty2:TypeId):List Blk:=[⟨false,ty2,.prv (lvals B)⟩]
theorem iR (a:Option Addr) (B:List Lf) (ty2:TypeId) (e:Int):oI (MR a e) (mo B ty2):=by delta oI;kernel_rfl
theorem s0 (s t:B32) (a:Option Addr) (B:List Lf) (m d:Nat) (ty2:TypeId):oX Γ1 300 (cpre 1 body) (aI fn [cB32.enc s,cB32.enc t,.o (.a (.v (.slice a 0 0))),.o (.a (.sld 0 0 0 m d))]) [⟨false,ty2,.prv (lvals B)⟩] [] .normal (M0 a m d) (m0 s t B ty2) []:=by delta oX;kernel_rfl
theorem q (H:Nd→Nd→B32) (hH:H=hV) (E:B32) (hE':E=hE) (S:Nd→B32) (hS':S=hS) (s t:B32) (a:Option Addr) (B:List Lf) (m d:Nat) (ty2:TypeId) (g:Nat→SV):oU [0,1,2,4] Γ1 R1 0 6 (fill g 0 (M0 a m d )) (m0 s t B ty2) [(15,[.dyn])] (M2 a m) (m1 s t B ty2 (((ah (tndV (ak (((lvals B).drop (0+0)).take (m*64))))).drop (0+0)).take (m*65)) m none) [0=0,0+0+m*64≤(lvals B).length,m≤d,((lvals B).drop (0+0)).take (m*64)=lvals (ak (((lvals B).drop (0+0)).take (m*64))),(ak (((lvals B).drop (0+0)).take (m*64))).length=m,m≤4000000,AllL (ak (((lvals B).drop (0+0)).take (m*64))),0+0+m*65≤(ah (tndV (ak (((lvals B).drop (0+0)).take (m*64))))).length,0<m,Room Tryd.prog 33 m]:=by delta oU;kernel_rfl
theorem z (H:Nd→Nd→B32) (hH:H=hV) (E:B32) (hE':E=hE) (S:Nd→B32) (hS':S=hS) (s t:B32) (a:Option Addr) (B:List Lf) (m d:Nat) (ty2:TypeId) (g:Nat→SV):oU [0,1,2] Γ1 R1 0 6 (fill g 0 (M0 a m d )) (m0 s t B ty2) [(15,[.dyn]),(18,[.dyn])] (Mz a) (m0 s t B ty2) [0=0,0+0+m*64≤(lvals B).length,m≤d,((lvals B).drop (0+0)).take (m*64)=lvals (ak (((lvals B).drop (0+0)).take (m*64))),(ak (((lvals B).drop (0+0)).take (m*64))).length=m,m≤4000000,AllL (ak (((lvals B).drop (0+0)).take (m*64))),0+0+m*65≤(ah (tndV (ak (((lvals B).drop (0+0)).take (m*64))))).length,m=0]:=by delta oU;kernel_rfl
section
variable (H:Nd→Nd→B32) (hH:H=hV) (E:B32) (hE':E=hE) (S:Nd→B32) (hS':S=hS) (s t:B32) (a:Option Addr) (B:List Lf)
theorem b (m d:Nat) (ty2:TypeId) (vs:List Value) (k:Nat) (x:B32) (e:Int) (y:B32) (f:Int) (g:Nat→SV):oN [0,1,2,4,5] (Γ2 H hH E hE' S hS') 100 (cpre 3 S2) (fill g 0 (M2 a k)) (m1 s t B ty2 vs k none) [(23,[.s (hsS (x,e))]),(28,[.s (hsS (y,f))])] .normal (M5 a e f) (mf s t B ty2 x y) [65=65,vs=ah (au vs),(au vs).length=k,k<4611686018427387904,hsS (E,0)=hsS (x,e),0+0+k*65≤(ah (bC (au vs))).length,k≤k,((ah (bC (au vs))).drop (0+0)).take (k*65)=ah (au (((ah (bC (au vs))).drop (0+0)).take (k*65))),(au (((ah (bC (au vs))).drop (0+0)).take (k*65))).length=k,k<bg,aN (au (((ah (bC (au vs))).drop (0+0)).take (k*65))),hsS (rootV H E S (au (((ah (bC (au vs))).drop (0+0)).take (k*65))))=hsS (y,f)]:=by delta oN;kernel_rfl
theorem bz (ty2:TypeId) (x:B32) (e:Int) (y:B32) (f:Int) (g:Nat→SV):oN [0,1,2,3,4] (Γ2 H hH E hE' S hS') 100 (cpre 3 S2) (fill g 0 (Mz a )) (m0 s t B ty2) [(23,[.s (hsS (x,e))]),(28,[.s (hsS (y,f))])] .normal (M5 a e f) (mf s t B ty2 x y) [hsS (E,0)=hsS (x,e),hsS (E,0)=hsS (y,f)]:=by delta oN;kernel_rfl
end
section
variable (s t:B32) (a:Option Addr) (B:List Lf) (ty2:TypeId) (x y:B32)
theorem t1 (f:Int) (g:Nat→SV):oX Γ1 300 T (fill g 0 (M5 a 1 f)) (mf s t B ty2 x y) [] .ret (MR a 1) (mo B ty2) []:=by delta oX;kernel_rfl
theorem t2 (g:Nat→SV):oX Γ1 300 T (fill g 0 (M5 a 0 1)) (mf s t B ty2 x y) [] .ret (MR a 1) (mo B ty2) []:=by delta oX;kernel_rfl
theorem t3 (g:Nat→SV):oX Γ1 300 T (fill g 0 (M5 a 0 0)) (mf s t B ty2 x y) [(41,[.b true])] .ret (MR a 3) (mo B ty2) [(!eqL x.to s.to)=true]:=by delta oX;kernel_rfl
theorem t4 (g:Nat→SV):oX Γ1 300 T (fill g 0 (M5 a 0 0)) (mf s t B ty2 x y) [(41,[.b false]),(45,[.b true])] .ret (MR a 3) (mo B ty2) [(!eqL x.to s.to)=false,(!eqL y.to t.to)=true]:=by delta oX;kernel_rfl
theorem t5 (g:Nat→SV):oX Γ1 300 T (fill g 0 (M5 a 0 0)) (mf s t B ty2 x y) [(41,[.b false]),(45,[.b false])] .ret (MR a 0) (mo B ty2) [(!eqL x.to s.to)=false,(!eqL y.to t.to)=false]:=by delta oX;kernel_rfl
end
theorem zr (a:Option Addr) (e:Int) (mm:Nat→Option Blk) (g:Nat→SV):eRes tys (fill g 0 (MR a e)) mm fn.results.toList=some [.a (int1 .i64 e)]:=by kernel_rfl
theorem tail (H:Nd→Nd→B32) (hH:H=hV) (E:B32) (hE':E=hE) (S:Nd→B32) (hS':S=hS) (s t:B32) (a:Option Addr) (B:List Lf) (m d:Nat) (ty2:TypeId) (x y:B32 × Int) (hx:x.2=0∨x.2=1) (hy:y.2=0∨y.2=1) (g:Nat→SV):aC Tryd.prog GT 1 T (fill g 0 (M5 a x.2 y.2)) (mf s t B ty2 x.1 y.1) (aF tys fn (aT (.o (.a (int1 .i64 (chkV x y s t)))) .none)):=by
 obtain⟨x,e⟩:=x
 obtain⟨y,f⟩:=y
 rcases hx with rfl | rfl
 ·rcases hy with rfl | rfl
  ·cases h1:eqL x.to s.to with
   | false=>
    refine Runs.aA aj mixed (t3 s t a B ty2 x y g) ⟨by rw[h1];rfl,trivial⟩ (iR a B ty2 _) rfl fun g=>aF.ret (zr a _ _ g) ?_
    unfold chkV;rw[h1];rfl
   | true=>
    cases h2:eqL y.to t.to with
    | false=>
     refine Runs.aA aj mixed (t4 s t a B ty2 x y g) ⟨by rw[h1];rfl,by rw[h2];rfl,trivial⟩ (iR a B ty2 _) rfl fun g=>aF.ret (zr a _ _ g) ?_
     unfold chkV;rw[h1,h2];rfl
    | true=>
     refine Runs.aA aj mixed (t5 s t a B ty2 x y g) ⟨by rw[h1];rfl,by rw[h2];rfl,trivial⟩ (iR a B ty2 _) rfl fun g=>aF.ret (zr a _ _ g) ?_
     unfold chkV;rw[h1,h2];rfl
  ·exact Runs.aA aj mixed (t2 s t a B ty2 x y g) trivial (iR a B ty2 _) rfl fun g=>aF.ret (zr a _ _ g) rfl
 ·exact Runs.aA aj mixed (t1 s t a B ty2 x y f g) trivial (iR a B ty2 _) rfl fun g=>aF.ret (zr a _ _ g) rfl
theorem back (H:Nd→Nd→B32) (hH:H=hV) (E:B32) (hE':E=hE) (S:Nd→B32) (hS':S=hS) (s t:B32) (a:Option Addr) (B:List Lf) (m d:Nat) (ty2:TypeId) (hm:B.length=m) (hd:m≤d) (hB:AllL B) (hb:m≤4000000) (U:List Nd) (k:Nat) (hk':aN U) (hk2:U.length=k) (hk3:k≤4000000) (g:Nat→SV):aC Tryd.prog GT 1 S2 (fill g 0 (M2 a k)) (m1 s t B ty2 (ah U) k none) (aF tys fn (aT (.o (.a (int1 .i64 (chkV (rootV H E S []) (rootV H E S (bC U)) s t)))) .none)):=by
 have dB:((lvals B).drop (0+0)).take (m*64)=lvals B:=dtl hm
 have lb:(lvals B).length=m*64:=by rw[←hm];exact aU B
 have lt:(tndV B).length=m:=by rw[tnd_len,hm]
 have lz:(ah (tndV B)).length=m*65:=by rw[aV,lt]
 have dT:((ah (tndV B)).drop (0+0)).take (m*65)=ah (tndV B):=dtn lt
 have hk:=tnd_ok hB
 have ls:(bC U).length=k:=by rw[sortL_len,hk2]
 have dS:((ah (bC U)).drop (0+0)).take (k*65)=ah (bC U):=dtn ls
 have q:=b H hH E hE' S hS' s t a B m d ty2 (ah U) k (rootV H E S []).1 (rootV H E S []).2 (rootV H E S (bC U)).1 (rootV H E S (bC U)).2 g
 rw[aO,dS,aO] at q
 refine Runs.of_outNP aj mixed 3 [0,1,2,4,5] q ⟨rfl,rfl,hk2,by omega,rfl,by rw[aV,ls];omega,Nat.le_refl _,rfl,ls,by unfold bg;omega,hk'.sort,rfl,trivial⟩ (i5 s t a B ty2 _ _ _ _) (by kernel_rfl) fun g=> ?_
 exact tail H hH E hE' S hS' s t a B m d ty2 _ _ (root_01 H E S _) (root_01 H E S _) g
theorem backz (H:Nd→Nd→B32) (hH:H=hV) (E:B32) (hE':E=hE) (S:Nd→B32) (hS':S=hS) (s t:B32) (a:Option Addr) (B:List Lf) (m d:Nat) (ty2:TypeId) (hm:B.length=m) (hd:m≤d) (hB:AllL B) (hb:m≤4000000) (g:Nat→SV):aC Tryd.prog GT 1 S2 (fill g 0 (Mz a)) (m0 s t B ty2) (aF tys fn (aT (.o (.a (int1 .i64 (chkV (rootV H E S []) (E,0) s t)))) .none)):=by
 have dB:((lvals B).drop (0+0)).take (m*64)=lvals B:=dtl hm
 have lb:(lvals B).length=m*64:=by rw[←hm];exact aU B
 have lt:(tndV B).length=m:=by rw[tnd_len,hm]
 have lz:(ah (tndV B)).length=m*65:=by rw[aV,lt]
 have dT:((ah (tndV B)).drop (0+0)).take (m*65)=ah (tndV B):=dtn lt
 have hk:=tnd_ok hB
 have q:=bz H hH E hE' S hS' s t a B ty2 (rootV H E S []).1 (rootV H E S []).2 E 0 g
 refine Runs.of_outNP aj mixed 3 [0,1,2,3,4] q ⟨rfl,rfl,trivial⟩ (i5 s t a B ty2 _ _ _ _) (by kernel_rfl) fun g=> ?_
 exact tail H hH E hE' S hS' s t a B m d ty2 (rootV H E S []) (E,0) (root_01 H E S _) (.inl rfl) g
theorem run (H:Nd→Nd→B32) (hH:H=hV) (E:B32) (hE':E=hE) (S:Nd→B32) (hS':S=hS) (s t:B32) (a:Option Addr) (B:List Lf) (m d:Nat) (ty2:TypeId) (hm:B.length=m) (hd:m≤d) (hB:AllL B) (hb:m≤4000000):aC Tryd.prog GT 1 body (aI fn [cB32.enc s,cB32.enc t,.o (.a (.v (.slice a 0 0))),.o (.a (.sld 0 0 0 m d))]) [⟨false,ty2,.prv (lvals B)⟩] (aF tys fn (aT (.o (.a (int1 .i64 (chkT H E S s t [] B)))) .none)):=by
 have dB:((lvals B).drop (0+0)).take (m*64)=lvals B:=dtl hm
 have lb:(lvals B).length=m*64:=by rw[←hm];exact aU B
 have lt:(tndV B).length=m:=by rw[tnd_len,hm]
 have lz:(ah (tndV B)).length=m*65:=by rw[aV,lt]
 have dT:((ah (tndV B)).drop (0+0)).take (m*65)=ah (tndV B):=dtn lt
 have hk:=tnd_ok hB
 refine Runs.aW aj mixed 1 (s0 s t a B m d ty2) trivial (i0 s t a B m d ty2) rfl fun g=> ?_
 rw[suf_1]
 refine Runs.seq (Runs.region ?_)
 unfold chkT
 rcases Nat.eq_zero_or_pos m with h1 | h1
 ·obtain rfl:B=[]:=List.eq_nil_of_length_eq_zero (by omega)
  have q:=z H hH E hE' S hS' s t a [] m d ty2 g
  rw[dB,aP] at q
  refine aJ.aH aj 6 [0,1,2] q ⟨rfl,by omega,hd,rfl,hm,by omega,hB,by omega,h1,trivial⟩ (iz s t a [] ty2) rfl fun g=> ?_
  rw[nil0,tnd_nil,List.append_nil,show bC []=[] from List.eq_nil_of_length_eq_zero (sortL_len []),show rootV H E S []=(E,0) from rfl]
  exact aJ.nil (backz H hH E hE' S hS' s t a [] m d ty2 hm hd hB hb g)
 ·have q:=nw.q H hH E hE' S hS' s t a B m d ty2 g
  rw[dB,aP,dT] at q
  refine aJ.aH aj 6 [0,1,2,4] q ⟨rfl,by omega,hd,rfl,hm,by omega,hB,by omega,h1,roomN m (by omega),trivial⟩ (i2 s t a B ty2 _ _ _ _) rfl fun g=> ?_
  rw[nil0,List.nil_append]
  exact aJ.nil (back H hH E hE' S hS' s t a B m d ty2 hm hd hB hb (tndV B) m hk lt (by omega) g)
end nw
namespace nn
def m0 (s t:B32):List Blk:=[⟨true,24,.lit (cB32.row s)⟩,⟨true,24,.lit (cB32.row t)⟩]
def mf (s t:B32) (x y:B32):List Blk:=[⟨true,24,.lit (cB32.row s)⟩,⟨true,24,.lit (cB32.row t)⟩,⟨true,24,.lit (cB32.row x)⟩,⟨true,24,.lit (cB32.row y)⟩]
def M0 (a:Option Addr) (b:Option Addr):List (Option SV):=aB 47 0 [(2,.o (.a (.v (.slice a 0 0)))),(3,.o (.a (.v (.slice b 0 0)))),(4,.o (.a (.ptr 0 0))),(5,.o (.a (.ptr 1 0)))]
theorem i0 (s t:B32) (a:Option Addr) (b:Option Addr):oI (M0 a b) (m0 s t):=by delta oI;kernel_rfl
def Mz (a:Option Addr):List (Option SV):=aB 47 0 [(2,.o (.a (.v (.slice a 0 0)))),(4,.o (.a (.ptr 0 0))),(5,.o (.a (.ptr 1 0))),(9,.o (.a (.v (.slice none 0 0))))]
theorem iz (s t:B32) (a:Option Addr):oI (Mz a) (m0 s t):=by delta oI;kernel_rfl
def M5 (a:Option Addr) (e f:Int):List (Option SV):=aB 47 0 [(4,.o (.a (.ptr 0 0))),(5,.o (.a (.ptr 1 0))),(10,.o (.a (.ptr 2 0))),(11,.o (.a (int1 .i64 e))),(12,.o (.a (.ptr 3 0))),(13,.o (.a (int1 .i64 f)))]
theorem i5 (s t:B32) (a:Option Addr) (e f:Int) (x y:B32):oI (M5 a e f) (mf s t x y):=by delta oI;kernel_rfl
def MR (a:Option Addr) (e:Int):List (Option SV):=aB 47 0 [(8,.o (.a (int1 .i64 e)))]
def mo:List Blk:=[]
theorem iR (a:Option Addr) (e:Int):oI (MR a e) (mo):=by delta oI;kernel_rfl
theorem s0 (s t:B32) (a:Option Addr) (b:Option Addr):oX Γ1 300 (cpre 1 body) (aI fn [cB32.enc s,cB32.enc t,.o (.a (.v (.slice a 0 0))),.o (.a (.v (.slice b 0 0)))]) [] [] .normal (M0 a b) (m0 s t) []:=by delta oX;kernel_rfl
theorem z (H:Nd→Nd→B32) (hH:H=hV) (E:B32) (hE':E=hE) (S:Nd→B32) (hS':S=hS) (s t:B32) (a:Option Addr) (b:Option Addr) (g:Nat→SV):oU [0,1] Γ1 R1 0 6 (fill g 0 (M0 a b )) (m0 s t) [(15,[.dyn]),(18,[.dyn])] (Mz a) (m0 s t) [0=0,0+0+0*65≤(ah (tndV [])).length,0=0]:=by delta oU;kernel_rfl
theorem bz (H:Nd→Nd→B32) (hH:H=hV) (E:B32) (hE':E=hE) (S:Nd→B32) (hS':S=hS) (s t:B32) (a:Option Addr) (x:B32) (e:Int) (y:B32) (f:Int) (g:Nat→SV):oN [0,1,2,3] (Γ2 H hH E hE' S hS') 100 (cpre 3 S2) (fill g 0 (Mz a )) (m0 s t) [(23,[.s (hsS (x,e))]),(28,[.s (hsS (y,f))])] .normal (M5 a e f) (mf s t x y) [hsS (E,0)=hsS (x,e),hsS (E,0)=hsS (y,f)]:=by delta oN;kernel_rfl
section
variable (s t:B32) (a:Option Addr)
theorem t1 (x y:B32) (f:Int) (g:Nat→SV):oX Γ1 300 T (fill g 0 (M5 a 1 f)) (mf s t x y) [] .ret (MR a 1) (mo) []:=by delta oX;kernel_rfl
theorem t2 (x y:B32) (g:Nat→SV):oX Γ1 300 T (fill g 0 (M5 a 0 1)) (mf s t x y) [] .ret (MR a 1) (mo) []:=by delta oX;kernel_rfl
theorem t3 (b:Option Addr) (x y:B32) (g:Nat→SV):oX Γ1 300 T (fill g 0 (M5 a 0 0)) (mf s t x y) [(41,[.b true])] .ret (MR a 3) (mo) [(!eqL x.to s.to)=true]:=by delta oX;kernel_rfl
theorem t4 (b:Option Addr) (x y:B32) (g:Nat→SV):oX Γ1 300 T (fill g 0 (M5 a 0 0)) (mf s t x y) [(41,[.b false]),(45,[.b true])] .ret (MR a 3) (mo) [(!eqL x.to s.to)=false,(!eqL y.to t.to)=true]:=by delta oX;kernel_rfl
theorem t5 (b:Option Addr) (x y:B32) (g:Nat→SV):oX Γ1 300 T (fill g 0 (M5 a 0 0)) (mf s t x y) [(41,[.b false]),(45,[.b false])] .ret (MR a 0) (mo) [(!eqL x.to s.to)=false,(!eqL y.to t.to)=false]:=by delta oX;kernel_rfl
end
theorem zr (a:Option Addr) (e:Int) (mm:Nat→Option Blk) (g:Nat→SV):eRes tys (fill g 0 (MR a e)) mm fn.results.toList=some [.a (int1 .i64 e)]:=by kernel_rfl
theorem tail (H:Nd→Nd→B32) (hH:H=hV) (E:B32) (hE':E=hE) (S:Nd→B32) (hS':S=hS) (s t:B32) (a:Option Addr) (b:Option Addr) (x y:B32 × Int) (hx:x.2=0∨x.2=1) (hy:y.2=0∨y.2=1) (g:Nat→SV):aC Tryd.prog GT 0 T (fill g 0 (M5 a x.2 y.2)) (mf s t x.1 y.1) (aF tys fn (aT (.o (.a (int1 .i64 (chkV x y s t)))) .none)):=by
 obtain⟨x,e⟩:=x
 obtain⟨y,f⟩:=y
 rcases hx with rfl | rfl
 ·rcases hy with rfl | rfl
  ·cases h1:eqL x.to s.to with
   | false=>
    refine Runs.aA aj mixed (t3 s t a b x y g) ⟨by rw[h1];rfl,trivial⟩ (iR a _) rfl fun g=>aF.ret (zr a _ _ g) ?_
    unfold chkV;rw[h1];rfl
   | true=>
    cases h2:eqL y.to t.to with
    | false=>
     refine Runs.aA aj mixed (t4 s t a b x y g) ⟨by rw[h1];rfl,by rw[h2];rfl,trivial⟩ (iR a _) rfl fun g=>aF.ret (zr a _ _ g) ?_
     unfold chkV;rw[h1,h2];rfl
    | true=>
     refine Runs.aA aj mixed (t5 s t a b x y g) ⟨by rw[h1];rfl,by rw[h2];rfl,trivial⟩ (iR a _) rfl fun g=>aF.ret (zr a _ _ g) ?_
     unfold chkV;rw[h1,h2];rfl
  ·exact Runs.aA aj mixed (t2 s t a x y g) trivial (iR a _) rfl fun g=>aF.ret (zr a _ _ g) rfl
 ·exact Runs.aA aj mixed (t1 s t a x y f g) trivial (iR a _) rfl fun g=>aF.ret (zr a _ _ g) rfl
theorem backz (H:Nd→Nd→B32) (hH:H=hV) (E:B32) (hE':E=hE) (S:Nd→B32) (hS':S=hS) (s t:B32) (a:Option Addr) (b:Option Addr) (g:Nat→SV):aC Tryd.prog GT 0 S2 (fill g 0 (Mz a)) (m0 s t) (aF tys fn (aT (.o (.a (int1 .i64 (chkV (rootV H E S []) (E,0) s t)))) .none)):=by
 have q:=bz H hH E hE' S hS' s t a (rootV H E S []).1 (rootV H E S []).2 E 0 g
 refine Runs.of_outNP aj mixed 3 [0,1,2,3] q ⟨rfl,rfl,trivial⟩ (i5 s t a _ _ _ _) (by kernel_rfl) fun g=> ?_
 exact tail H hH E hE' S hS' s t a b (rootV H E S []) (E,0) (root_01 H E S _) (.inl rfl) g
theorem run (H:Nd→Nd→B32) (hH:H=hV) (E:B32) (hE':E=hE) (S:Nd→B32) (hS':S=hS) (s t:B32) (a:Option Addr) (b:Option Addr):aC Tryd.prog GT 0 body (aI fn [cB32.enc s,cB32.enc t,.o (.a (.v (.slice a 0 0))),.o (.a (.v (.slice b 0 0)))]) [] (aF tys fn (aT (.o (.a (int1 .i64 (chkT H E S s t [] [])))) .none)):=by
 refine Runs.aW aj mixed 1 (s0 s t a b) trivial (i0 s t a b) rfl fun g=> ?_
 rw[suf_1]
 refine Runs.seq (Runs.region ?_)
 unfold chkT
 refine aJ.aH aj 6 [0,1] (z H hH E hE' S hS' s t a b g) ⟨rfl,by omega,rfl,trivial⟩ (iz s t a) rfl fun g=> ?_
 rw[nil0,tnd_nil,List.append_nil,show bC []=[] from List.eq_nil_of_length_eq_zero (sortL_len []),show rootV H E S []=(E,0) from rfl]
 exact aJ.nil (backz H hH E hE' S hS' s t a b g)
end nn
noncomputable def spec (H:Nd→Nd→B32) (E:B32) (S:Nd→B32):List PArg→Option (SV × LEff × Cst)
 | [.val u,.val v,.winv _ vs n ty,.winv _ ws m ty2]=>match cB32.dec u,cB32.dec v with
  | some s,some t=>some (.o (.a (int1 .i64 (chkT H E S s t (au vs) (ak ws)))),.none,[vs=ah (au vs),(au vs).length=n,aN (au vs),ws=lvals (ak ws),(ak ws).length=m,AllL (ak ws),n+m≤4000000])
  | _,_=>none
 | [.val u,.val v,.val (.o (.a (.v (.slice a 0 0)))),.winv _ ws m ty2]=>match cB32.dec u,cB32.dec v with
  | some s,some t=>some (.o (.a (int1 .i64 (chkT H E S s t [] (ak ws)))),.none,[ws=lvals (ak ws),(ak ws).length=m,AllL (ak ws),m≤4000000])
  | _,_=>none
 | [.val u,.val v,.val (.o (.a (.v (.slice a 0 0)))),.val (.o (.a (.v (.slice b 0 0))))]=>match cB32.dec u,cB32.dec v with
  | some s,some t=>some (.o (.a (int1 .i64 (chkT H E S s t [] []))),.none,[])
  | _,_=>none
 | _=>none
noncomputable def con (H:Nd→Nd→B32) (hH:H=hV) (E:B32) (hE':E=hE) (S:Nd→B32) (hS':S=hS):Con Tryd.prog GT:=Con.parts aj 46 fn Tryd.func46 (by kernel_rfl) (c:=body) (by kernel_rfl) [.val,.val,.winv 65,.winv 64] (spec H E S)
 (fun ps r e p h hp=>by
  unfold spec at h
  split at h
  ·split at h<;>cases h
   exact⟨rfl,fun b hb=>by simp only[aR,PArg.blk,List.append_nil,List.nil_append,List.cons_append,List.mem_cons,List.not_mem_nil,or_false] at hb;rcases hb with rfl | rfl<;>rfl⟩
  ·split at h<;>cases h
   exact⟨rfl,fun b hb=>by simp only[aR,PArg.blk,List.append_nil,List.nil_append,List.mem_singleton] at hb;rw[hb]⟩
  ·split at h<;>cases h
   exact⟨rfl,fun b hb=>by simp[aR,PArg.blk] at hb⟩
  ·cases h)
 (fun ps r e p cap h hp hi=>by
  unfold spec at h
  split at h
  ·rename_i u v s1 vs n ty s2 ws m ty2
   split at h<;>cases h
   rename_i s t k1 k2
   have e1:=cB32.ok _ _ k1
   have e2:=cB32.ok _ _ k2
   subst e1 e2
   obtain⟨p1,p2,p3,q1,q2,q3,hb,_⟩:=hp
   obtain⟨_,_,⟨_,hc1⟩,⟨_,hc2⟩,_⟩:=hi
   rcases Nat.eq_zero_or_pos n with h0 | h0
   ·have q:=zw.run H hH E hE' S hS' s t (au vs) n (cap 0) ty (ak ws) m (cap 1) ty2 p2 hc1 p3 q2 hc2 q3 hb h0
    rw[←p1,←q1] at q
    exact q
   ·have q:=pw.run H hH E hE' S hS' s t (au vs) n (cap 0) ty (ak ws) m (cap 1) ty2 p2 hc1 p3 q2 hc2 q3 hb h0
    rw[←p1,←q1] at q
    exact q
  ·rename_i u v a s2 ws m ty2
   split at h<;>cases h
   rename_i s t k1 k2
   have e1:=cB32.ok _ _ k1
   have e2:=cB32.ok _ _ k2
   subst e1 e2
   obtain⟨q1,q2,q3,hb,_⟩:=hp
   obtain⟨_,_,_,⟨_,hc2⟩,_⟩:=hi
   have q:=nw.run H hH E hE' S hS' s t a (ak ws) m (cap 0) ty2 q2 hc2 q3 hb
   rw[←q1] at q
   exact q
  ·rename_i u v a b
   split at h<;>cases h
   rename_i s t k1 k2
   have e1:=cB32.ok _ _ k1
   have e2:=cB32.ok _ _ k2
   subst e1 e2
   exact nn.run H hH E hE' S hS' s t a b
  ·cases h)
noncomputable def spec0 (H:Nd→Nd→B32) (E:B32) (S:Nd→B32):List PArg→Option (SV × LEff × Cst)
 | [.val u,.val v,.val (.o (.a (.v (.slice a 0 0)))),.val (.o (.a (.v (.slice b 0 0))))]=>match cB32.dec u,cB32.dec v with
  | some s,some t=>some (.o (.a (int1 .i64 (chkT H E S s t [] []))),.none,[])
  | _,_=>none
 | _=>none
noncomputable def con0 (H:Nd→Nd→B32) (hH:H=hV) (E:B32) (hE':E=hE) (S:Nd→B32) (hS':S=hS):Con Tryd.prog GT:=Con.parts aj 46 fn Tryd.func46 (by kernel_rfl) (c:=body) (by kernel_rfl) [.val,.val,.winv 65,.winv 64] (spec0 H E S)
 (fun ps r e p h hp=>by
  unfold spec0 at h
  split at h
  ·split at h<;>cases h
   exact⟨rfl,fun b hb=>by simp[aR,PArg.blk] at hb⟩
  ·cases h)
 (fun ps r e p cap h hp hi=>by
  unfold spec0 at h
  split at h
  ·rename_i u v a b
   split at h<;>cases h
   rename_i s t k1 k2
   have e1:=cB32.ok _ _ k1
   have e2:=cB32.ok _ _ k2
   subst e1 e2
   exact nn.run H hH E hE' S hS' s t a b
  ·cases h)
end gck
end Go.Proofs.YtdccehmekkcheaaDoor
