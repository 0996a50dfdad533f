/- GrowChain: both checks. -/
import Derived.Test.YtdccehmekkcheaaDoorCFo
import Derived.Test.YtdccehmekkcheaaDoorCMTL
import Derived.Test.YtdccehmekkcheaaDoorCRlL
import Derived.Test.YtdccehmekkcheaaDoorCMTI
import Derived.Test.YtdccehmekkcheaaDoorCOpn
import Derived.Test.YtdccehmekkcheaaDoorCTrFo
import Derived.Test.YtdccehmekkcheaaDoorCLTo
import Derived.Test.YtdccehmekkcheaaDoorCBkP
set_option linter.unusedSimpArgs false
set_option linter.unusedVariables false
namespace Go.Proofs.YtdccehmekkcheaaDoor
open Go Go.Eng Go.RowKit
set_option maxRecDepth 100000
namespace lgch
noncomputable def E9:Code:=cs1 (bM 8 body)
noncomputable def R9:Code:=cs1 E9
noncomputable def n9:Nat:=match R9 with | .region i _ _=>i | _=>0
theorem reg9:R9= .region n9 (opsOf R9) false:=by kernel_rfl
theorem nil9:((opsOf R9).toList.drop 18).drop 10=[]:=by kernel_rfl
noncomputable def Γe (H:Nd→Nd→B32) (hH:H=hV) (E:B32) (hE':E=hE) (S:Nd→B32) (hS':S=hS) (e:Bool):Cons Tryd.prog GT:=bif e then [root12.con H hH E hE' S hS',cpl12.conZ,gck.con H hH E hE' S hS'] else [root12.con H hH E hE' S hS',cpl12.conP,gck.con H hH E hE' S hS']
noncomputable def crX (H:Nd→Nd→B32) (E:B32) (S:Nd→B32) (e:Bool) (X:List Lf) (s:B32):Cst:=bif e then [ay.enc (gM H E S []).1=ay.enc s] else [0+0+X.length*64≤(lvals X).length,X.length≤X.length,rd X=lvals (av (rd X)),(av (rd X)).length=X.length,X.length≤4000000,bI (av (rd X)),ay.enc (gM H E S (av (rd X))).1=ay.enc s]
noncomputable def crJ (H:Nd→Nd→B32) (E:B32) (S:Nd→B32) (e:Bool) (L:List Lf) (s:B32):Cst:=cv e (lvals L) L.length++[rv e (lvals L) L.length=lvals (av (rv e (lvals L) L.length)),(av (rv e (lvals L) L.length)).length=nv e L.length,nv e L.length≤4000000,bI (av (rv e (lvals L) L.length)),ay.enc (gM H E S (av (rv e (lvals L) L.length))).1=ay.enc s]
def rdn (T:List Nd):List Value:=((ah T).drop (0+0)).take (T.length*65)
noncomputable def ck (H:Nd→Nd→B32) (E:B32) (S:Nd→B32) (e1:Bool) (T:List Nd) (e:Bool) (Y:List Lf) (s t:B32):Cst:=(bif e1 then [] else [0+0+T.length*65≤(ah T).length,T.length≤T.length])++(cv e (rd Y) Y.length++((bif e1 then [] else [rdn T=ah (ak (rdn T)),(ak (rdn T)).length=T.length,bg (ak (rdn T))])++[rv e (rd Y) Y.length=lvals (av (rv e (rd Y) Y.length)),(av (rv e (rd Y) Y.length)).length=nv e Y.length,bI (av (rv e (rd Y) Y.length)),bif e1 then nv e Y.length≤4000000 else T.length+nv e Y.length≤4000000,kH H E S s t (bif e1 then [] else ak (rdn T)) (av (rv e (rd Y) Y.length))=0]))
def MG (f:Fr) (ex ey ez:Bool) (X Y L Z W:List Lf) (u:Nat):List (Option SV):=aD 133 0 (bs f ex ey ez X Y L Z W++[(17,sn (ex&&ey) (k8 ex ey ez) u),(80,.o (.a (.v (.bool false))))])
theorem iG (f:Fr) (ex ey ez:Bool) (X Y L Z W:List Lf) (T U:List Nd) (u:Nat):gU (mF f ex ey ez X Y L Z W T U).length (MG f ex ey ez X Y L Z W u) (mF f ex ey ez X Y L Z W T U)=true:=by cases ex<;>cases ey<;>cases ez<;>kernel_rfl
abbrev pG (ex ey ez:Bool):List Nat:=List.range (up (ex&&ey) (k8 ex ey ez))
theorem jG (f:Fr) (ex ey ez:Bool) (X Y L Z W:List Lf) (T U:List Nd):inj (piF (pG ex ey ez)) 3 (mF f ex ey ez X Y L Z W T U).length=true:=by cases ex<;>cases ey<;>cases ez<;>kernel_rfl
theorem c1 (H:Nd→Nd→B32) (hH:H=hV) (E:B32) (hE':E=hE) (S:Nd→B32) (hS':S=hS) (f:Fr) (ex ey ez:Bool) (X Y L Z W:List Lf) (T U:List Nd) (s t:B32) (g:Nat→SV):jw (pG ex ey ez) (MG f ex ey ez X Y L Z W U.length) (eG (Γe H hH E hE' S hS' ey) tys (opsOf R9).toList (((opsOf R9).toList.drop 0).take 18) ⟨fill g 0 (MF f ex ey ez X Y L Z W T.length U.length),mF f ex ey ez X Y L Z W T U,[(71,[.s (ay.enc s)]),(73,[.s (ay.enc t)]),(77,[.n 0])]⟩)=some ((live (MG f ex ey ez X Y L Z W U.length)).map (SV.ren (piF (pG ex ey ez))),(MG f ex ey ez X Y L Z W U.length).length,(mF f ex ey ez X Y L Z W T U).map (fun b=>some (b.ren (piF (pG ex ey ez)))),crX H E S ex X s++(crJ H E S (ex&&ey) L t++(cc ey Y++ck H E S ex T ey Y s t))):=by cases ex<;>cases ey<;>cases ez<;>kernel_rfl
section
variable (f:Fr) (ex ey ez:Bool) (X Y L Z W:List Lf)
def MH:List (Option SV):=aD 133 0 (bs f ex ey ez X Y L Z W++[(90,.o (.a (.v (.bool false))))])
theorem iH:gU (bm f ex ey ez X Y L Z W).length (MH f ex ey ez X Y L Z W) (bm f ex ey ez X Y L Z W)=true:=by cases ex<;>cases ey<;>cases ez<;>kernel_rfl
theorem jH:inj (piF (List.range (k7 ex ey ez))) 3 (bm f ex ey ez X Y L Z W).length=true:=by cases ex<;>cases ey<;>cases ez<;>kernel_rfl
end
theorem c2 (H:Nd→Nd→B32) (hH:H=hV) (E:B32) (hE':E=hE) (S:Nd→B32) (hS':S=hS) (f:Fr) (ex ey ez:Bool) (X Y L Z W:List Lf) (T U:List Nd) (s t:B32) (g:Nat→SV):jw (List.range (k7 ex ey ez)) (MH f ex ey ez X Y L Z W) (eG (Γe H hH E hE' S hS' ez) tys (opsOf R9).toList (((opsOf R9).toList.drop 18).take 10) ⟨fill g 0 (MG f ex ey ez X Y L Z W U.length),mF f ex ey ez X Y L Z W T U,[(82,[.s (ay.enc s)]),(84,[.s (ay.enc t)]),(88,[.n 0])]⟩)=some ((live (MH f ex ey ez X Y L Z W)).map (SV.ren (piF (List.range (k7 ex ey ez)))),(MH f ex ey ez X Y L Z W).length,(bm f ex ey ez X Y L Z W).map (fun b=>some (b.ren (piF (List.range (k7 ex ey ez))))),crJ H E S (ex&&ey) L s++(crJ H E S (ex&&ey&&ez) W t++(cc ez Z++ck H E S (ex&&ey) U ez Z s t))):=by cases ex<;>cases ey<;>cases ez<;>kernel_rfl
end lgch
namespace lgch
theorem E9_eq:E9= .seq R9 (cs2 E9):=by kernel_rfl
section
variable (f:Fr) (ex ey ez:Bool) (X Y L Z W:List Lf)
def MI:List (Option SV):=aD 133 0 (bs f ex ey ez X Y L Z W)
theorem iI:gU (bm f ex ey ez X Y L Z W).length (MI f ex ey ez X Y L Z W) (bm f ex ey ez X Y L Z W)=true:=by cases ex<;>cases ey<;>cases ez<;>kernel_rfl
theorem c3 (g:Nat→SV):outN (List.range (k7 ex ey ez)) (MI f ex ey ez X Y L Z W) (exec (Γp false false) tys 100 (cs2 E9) ⟨fill g 0 (MH f ex ey ez X Y L Z W),bm f ex ey ez X Y L Z W,[]⟩)=some (.normal,(live (MI f ex ey ez X Y L Z W)).map (SV.ren (piF (List.range (k7 ex ey ez)))),(MI f ex ey ez X Y L Z W).length,(bm f ex ey ez X Y L Z W).map (fun b=>some (b.ren (piF (List.range (k7 ex ey ez))))),[]):=by cases ex<;>cases ey<;>cases ez<;>kernel_rfl
end
theorem acc {X Y:List Lf} (hX:bI X) (hY:bI Y) (hne:((X++Y).map bP).Pairwise NeP) (H:Nd→Nd→B32) (hH:H=hV) (E:B32) (S:Nd→B32):
  kH H E S (gM H E S X).1 (gM H E S (X++Y)).1 (stT H X Y) Y=0:=by
 subst hH
 rw[rof_eq hX,rof_eq (hX.app hY)]
 exact acp.accept hX hY hne E S
theorem aok {X Y:List Lf} (hX:bI X) (hY:bI Y) (hne:((X++Y).map bP).Pairwise NeP) (H:Nd→Nd→B32) (hH:H=hV):bg (stT H X Y):=by
 subst hH
 exact(acp.stay hX hY hne).1.ok
theorem stl {X Y:List Lf} (hX:bI X) (hne:((X++Y).map bP).Pairwise NeP):(stT hV X Y).length≤X.length:=by
 rcases X with _ | ⟨z,X⟩
 ·have e:stT hV [] Y=[]:=by unfold stT;rw[kX];rfl
  rw[e]
  exact Nat.le_refl _
 ·have hA:=acp.apT hX (qU hne)
  have e:stT hV (z::X) Y=bT hV false (bq (z::X)) (jR Y):=nZ hV gW false hA _
  rw[e]
  have:=qV hV gW false hA (jR Y)
  rw[je] at this
  exact this
theorem stn {Y:List Lf} (H:Nd→Nd→B32):stT H [] Y=[]:=by unfold stT;rw[kX];rfl
theorem crX_ok {H:Nd→Nd→B32} {E:B32} {S:Nd→B32} {X:List Lf} (hX:bI X) (hb:X.length≤4000000):Holds (crX H E S X.isEmpty X (gM H E S X).1):=by
 cases X with
 | nil=>exact⟨rfl,trivial⟩
 | cons x X=>
  show Holds [_,_,_,_,_,_,_]
  rw[nP,bW]
  exact⟨by rw[bU];omega,Nat.le_refl _,rfl,rfl,hb,hX,rfl,trivial⟩
theorem crJ_ok {H:Nd→Nd→B32} {E:B32} {S:Nd→B32} {X:List Lf} (hX:bI X) (hb:X.length≤4000000):Holds (crJ H E S X.isEmpty X (gM H E S X).1):=by
 refine happ (cv_ok X) ?_
 rw[rv_eq,bW,nv_eq]
 exact⟨rfl,rfl,hb,hX,rfl,trivial⟩
theorem ck_ok {H:Nd→Nd→B32} (hH:H=hV) {E:B32} {S:Nd→B32} {X Y:List Lf} (hX:bI X) (hY:bI Y) (hne:((X++Y).map bP).Pairwise NeP) (hb:X.length+Y.length≤4000000):Holds (ck H E S X.isEmpty (stT H X Y) Y.isEmpty Y (gM H E S X).1 (gM H E S (X++Y)).1):=by
 have ac:=acc hX hY hne H hH E S
 have ok:=aok hX hY hne H hH
 have le:(stT H X Y).length≤X.length:=by rw[hH];exact stl hX hne
 have e0:rdn (stT H X Y)=ah (stT H X Y):=dtn rfl
 unfold ck
 rw[nP,rv_eq,bW,nv_eq,e0,bE]
 cases X with
 | nil=>
  rw[stn] at ac
  exact happ trivial (happ (cv_ok Y) (happ trivial ⟨rfl,rfl,hY,by show Y.length≤_;omega,ac,trivial⟩))
 | cons x X=>exact happ ⟨by rw[bH];omega,Nat.le_refl _,trivial⟩ (happ (cv_ok Y) (happ ⟨rfl,rfl,ok,trivial⟩ ⟨rfl,rfl,hY,by show _+_≤_;omega,ac,trivial⟩))
theorem checked (H:Nd→Nd→B32) (hH:H=hV) (E:B32) (hE':E=hE) (S:Nd→B32) (hS':S=hS) (f:Fr) {X Y L Z W:List Lf} (hX:bI X) (hY:bI Y) (hL:X++Y=L) (hZ:bI Z) (hW:L++Z=W) (hne:((X++Y).map bP).Pairwise NeP) (hne2:((L++Z).map bP).Pairwise NeP) (hb:L.length+Z.length≤4000000) (g:Nat→SV) {Post:Ex→List SV→List Blk→Prop}
  (h:∀g,Post .normal (fill g 0 (MI f X.isEmpty Y.isEmpty Z.isEmpty X Y L Z W)) (bm f X.isEmpty Y.isEmpty Z.isEmpty X Y L Z W)):aF Tryd.prog GT 3 E9 (fill g 0 (MF f X.isEmpty Y.isEmpty Z.isEmpty X Y L Z W (stT H X Y).length (stT H L Z).length)) (mF f X.isEmpty Y.isEmpty Z.isEmpty X Y L Z W (stT H X Y) (stT H L Z)) Post:=by
 have aL:bI L:=by rw[←hL];exact hX.app hY
 have aW:bI W:=by rw[←hW];exact aL.app hZ
 have lL:L.length=X.length+Y.length:=by rw[←hL,List.length_append]
 have lW:W.length=L.length+Z.length:=by rw[←hW,List.length_append]
 have ie:(X.isEmpty&&Y.isEmpty)=L.isEmpty:=by rw[iem,hL]
 have ie2:(L.isEmpty&&Z.isEmpty)=W.isEmpty:=by rw[iem,hW]
 have k1:=ck_ok hH (E:=E) (S:=S) hX hY hne (by omega)
 have k2:=ck_ok hH (E:=E) (S:=S) aL hZ hne2 hb
 rw[hL] at k1
 rw[hW] at k2
 rw[E9_eq]
 refine Runs.seq ?_
 rw[reg9]
 refine Runs.region ?_
 refine aS.aP aj 18 _ (c1 H hH E hE' S hS' f X.isEmpty Y.isEmpty Z.isEmpty X Y L Z W (stT H X Y) (stT H L Z) (gM H E S X).1 (gM H E S L).1 g) (happ (crX_ok hX (by omega)) (happ (by rw[ie];exact crJ_ok aL (by omega)) (happ (cc_ok (by omega)) k1))) (iG f _ _ _ X Y L Z W _ _ _) (jG f _ _ _ X Y L Z W _ _) fun g=> ?_
 refine aS.aP aj 10 _ (c2 H hH E hE' S hS' f X.isEmpty Y.isEmpty Z.isEmpty X Y L Z W (stT H X Y) (stT H L Z) (gM H E S L).1 (gM H E S W).1 g) (happ (by rw[ie];exact crJ_ok aL (by omega)) (happ (by rw[ie,ie2];exact crJ_ok aW (by omega)) (happ (cc_ok (by omega)) (by rw[ie];exact k2)))) (iH f _ _ _ X Y L Z W) (jH f _ _ _ X Y L Z W) fun g=> ?_
 rw[nil9]
 refine aS.nil ?_
 exact Runs.aP aj mixed _ (c3 f _ _ _ X Y L Z W g) trivial (iI f _ _ _ X Y L Z W) (jH f _ _ _ X Y L Z W) h
end lgch
namespace lgch
noncomputable def E11:Code:=cs1 (bM 9 body)
def MR:List (Option SV):=aD 133 0 [(8,.o (.a (.v (.bool true))))]
theorem zr (g:Nat→SV) (mm:Nat→Option Blk):eRes tys (fill g 0 MR) mm fn.results.toList=some [.a (fH true)]:=by kernel_rfl
theorem iR (f:Fr):oI MR (m0 f):=by delta oI;kernel_rfl
theorem d0 (f:Fr) (ey ez:Bool) (X Y L Z W:List Lf) (g:Nat→SV):outN [0,1,2] MR (exec (Γp false false) tys 100 E11 ⟨fill g 0 (MI f true ey ez X Y L Z W),bm f true ey ez X Y L Z W,[]⟩)=some (.ret,(live MR).map (SV.ren (piF [0,1,2])),MR.length,(m0 f).map (fun b=>some (b.ren (piF [0,1,2]))),[]):=by cases ey<;>cases ez<;>kernel_rfl
def MJ (f:Fr) (X W:List Lf):List (Option SV):=aD 133 0 [(3,.o (.a (aG .i64 f.at_))),(9,.o (.a (.slg 3 X.length))),(14,.o (.a (.slg 4 W.length)))]
def mJ (f:Fr) (X W:List Lf):List Blk:=m0 f++[gl X,gl W]
theorem iJ (f:Fr) (X W:List Lf):oI (MJ f X W) (mJ f X W):=by delta oI;kernel_rfl
theorem d1 (f:Fr) (ey ez:Bool) (X Y L Z W:List Lf) (g:Nat→SV):outN [0,1,2,3,k6 false ey ez] (MJ f X W) (exec (Γp false false) tys 100 E11 ⟨fill g 0 (MI f false ey ez X Y L Z W),bm f false ey ez X Y L Z W,[(93,[.b false])]⟩)=some (.normal,(live (MJ f X W)).map (SV.ren (piF [0,1,2,3,k6 false ey ez])),(MJ f X W).length,(mJ f X W).map (fun b=>some (b.ren (piF [0,1,2,3,k6 false ey ez]))),[((X.length:Int)==0)=false]):=by cases ey<;>cases ez<;>kernel_rfl
noncomputable def R13:Code:=cs1 (bM 10 body)
def MK (W:List Lf):List (Option SV):=aD 133 0 [(14,.o (.a (.slg 3 W.length))),(19,.o (.a (.ptr 4 0)))]
def mK (f:Fr) (W:List Lf) (w:Lf):List Blk:=m0 f++[gl W,⟨true,LT,.lit (w.row)⟩]
theorem iK (f:Fr) (W:List Lf) (w:Lf):oI (MK W) (mK f W w):=by delta oI;kernel_rfl
theorem e13 (f:Fr) (X W:List Lf) (w:Lf) (u v q r:Int) (g:Nat→SV):oN [0,1,2,4,5] (Γp false false) 100 R13 (fill g 0 (MJ f X W)) (mJ f X W) [(96,[.n u]),(99,[.n v]),(100,[.ds (.o (.a (aG .u64 q)))]),(101,[.n r]),(103,[.ds (cLf.enc w)])] .normal (MK W) (mK f W w) [IntKind.u64.wrap f.at_=u,IntKind.u64.wrap X.length=v,v≠0,SV.o (.a (aG .u64 (u.tmod v)))=SV.o (.a (aG .u64 q)),IntKind.i64.wrap q=r,0≤r,r<X.length,0+aN 0 r 64+64≤(lvals X).length,SV.o (.g (bn (lvals X) (0+aN 0 r 64) 64))=cLf.enc w]:=by delta oN;kernel_rfl
end lgch
namespace lgch
noncomputable def Γf (H:Nd→Nd→B32) (hH:H=hV) (E:B32) (hE':E=hE) (S:Nd→B32) (hS':S=hS):Cons Tryd.prog GT:=[rop.conP H hH,root12.con H hH E hE' S hS',rfd.con H hH E hE' S hS',rleaf.con]
noncomputable abbrev oW (H:Nd→Nd→B32) (W:List Lf) (w:Lf):List Nd:=opR H (av (rd W)) w.lab
abbrev lW (W:List Lf):Cst:=[0+0+W.length*64≤(lvals W).length,W.length≤W.length,rd W=lvals (av (rd W)),(av (rd W)).length=W.length,W.length≤4000000,bI (av (rd W))]
theorem e14 (H:Nd→Nd→B32) (hH:H=hV) (E:B32) (hE':E=hE) (S:Nd→B32) (hS':S=hS) (f:Fr) (W:List Lf) (w:Lf) (s h:B32) (y:Nd) (g:Nat→SV):oN [0,1,2] (Γf H hH E hE' S hS') 100 (bM 11 body) (fill g 0 (MK W)) (mK f W w) [(113,[.s (ay.enc s)]),(117,[.s (fdS (h,true,0))]),(129,[.s (cNd.enc y)]),(131,[.b true])] .ret MR (m0 f) (lW W++([BOk w.lab,0<W.length,fK (av (rd W)) W.length=false]++(lW W++([ay.enc (gM H E S (av (rd W))).1=ay.enc s]++[0+0+(oW H W w).length*65≤(ah (oW H W w)).length,(oW H W w).length≤(oW H W w).length,rdn (oW H W w)=ah (ak (rdn (oW H W w))),(ak (rdn (oW H W w))).length=(oW H W w).length,(oW H W w).length<bK,bg (ak (rdn (oW H W w))),BOk w.lab,fdS (nL H E S s (ak (rdn (oW H W w))) w.lab)=fdS (h,true,0),LOk w,cNd.enc (bP w)=cNd.enc y,eqL h.to y.hash.to=true])))):=by delta oN;kernel_rfl
end lgch
namespace lgch
theorem op_ok {l:List Lf} (h:bI l) (h0:l≠[]) (hd:fK l l.length=false) (x:B32):bg (opT hV l x):=by
 have hA:=(gF (iV h)).1 (kN h hd)
 have hne:bq l≠[]:=by rw[←List.length_pos_iff,je,List.length_pos_iff];exact h0
 have W:=o7 hV gW true hA hne [x]
 rw[←nZ hV gW true hA] at W
 exact(Wit.ap hV gW hA W).ok
theorem modU1 (k:Int) {i:Nat} (hb:i≤4000000) (h1:0<i):(((IntKind.u64.wrap k).tmod (IntKind.u64.wrap i)).toNat:Int)=(IntKind.u64.wrap k).tmod (IntKind.u64.wrap i)∧((IntKind.u64.wrap k).tmod (IntKind.u64.wrap i)).toNat<i:=by
 have hi:IntKind.u64.wrap (i:Int)=i:=by rw[IntKind.wrap_u64];omega
 have hk:0≤IntKind.u64.wrap k:=by rw[IntKind.wrap_u64];omega
 rw[hi]
 have a:=Int.tmod_nonneg (i:Int) hk
 have b:=Int.tmod_lt_of_pos (IntKind.u64.wrap k) (show(0:Int)<i by omega)
 omega
theorem dst_self {L:List Lf} (h:(L.map bP).Pairwise NeP):∀i,i≤L.length→bY L i=L.take i
 | 0,_=>by simp[bY]
 | i+1,hi=>by
  have ih:=dst_self h i (by omega)
  have hn:dF (bY L i) (L.getD i zl).lab (bY L i).length=true:=by
   rw[pK,ih]
   intro j hj
   rw[List.length_take] at hj
   have e1:(L.take i).getD j zl=L[j]'(by omega):=by simp[List.getD,List.getElem?_take,show j<i by omega,List.getElem?_eq_getElem (show j<L.length by omega)]
   have e2:L.getD i zl=L[i]'(by omega):=by simp[List.getD,List.getElem?_eq_getElem (show i<L.length by omega)]
   rw[e1,e2]
   have q:=List.pairwise_iff_getElem.1 h j i (by simp;omega) (by simp;omega) (by omega)
   simp only[List.getElem_map] at q
   exact q
  rw[bY,hn,cond_true,ih]
  have e2:L.getD i zl=L[i]'(by omega):=by simp[List.getD,List.getElem?_eq_getElem (show i<L.length by omega)]
  rw[e2,List.take_succ_eq_append_getElem (by omega)]
theorem dst_all {L:List Lf} (h:(L.map bP).Pairwise NeP):bY L L.length=L:=by rw[dst_self h _ (Nat.le_refl _),List.take_length]
theorem body2:bM 2 body= .seq R3 (.seq R4 (.seq R5 (.seq R6 (.seq R7 (.seq R8 (.seq E9 (.seq E11 (.seq R13 (bM 11 body))))))))):=by kernel_rfl
abbrev END:Ex→List SV→List Blk→Prop:=aH tys fn (bJ (aI.enc true) .none)
theorem last (f:Fr) {X Y L Z W:List Lf} (hL:X++Y=L) (hW:L++Z=W) (aX:bI X) (aW:bI W) (hne:(W.map bP).Pairwise NeP) (hb:W.length≤3200000) (g:Nat→SV):aF Tryd.prog GT 3 (.seq E11 (.seq R13 (bM 11 body))) (fill g 0 (MI f X.isEmpty Y.isEmpty Z.isEmpty X Y L Z W)) (bm f X.isEmpty Y.isEmpty Z.isEmpty X Y L Z W) END:=by
 cases X with
 | nil=>exact Runs.seq (Runs.aP aj mixed _ (d0 f _ _ [] Y L Z W g) trivial (iR f) rfl fun g=>aH.ret (zr g _) rfl)
 | cons x X=>
  have hp:0<(x::X).length:=Nat.succ_pos _
  have sub:∀z∈x::X,z∈W:=fun z hz=>by rw[←hW,←hL];simp only[List.mem_append];exact .inl (.inl hz)
  have lVW:(x::X).length≤W.length:=by rw[←hW,←hL];simp only[List.length_append];omega
  generalize x::X=V at*
  have ie:V.isEmpty=false:=by cases V with | nil=>exact absurd hp (by decide) | cons _ _=>rfl
  obtain⟨q1,q2⟩:=modU1 f.at_ (show V.length≤4000000 by omega) hp
  have hi64:IntKind.u64.wrap (V.length:Int)=V.length:=by rw[IntKind.wrap_u64];omega
  generalize hq:((IntKind.u64.wrap f.at_).tmod (IntKind.u64.wrap V.length)).toNat=q at*
  obtain⟨t1,t2⟩:=dst.tC V q2
  have hw:V.getD q zl∈W:=sub _ (dV q2 _)
  have ok:LOk (V.getD q zl):=aX.at q2
  generalize V.getD q zl=w at*
  have h0:W≠[]:=fun e=>by rw[e] at hw;cases hw
  have hd:fK W W.length=false:=qg hne _ (Nat.le_refl _)
  obtain⟨b1,b2,_⟩:=back aW h0 hd hE hS ok.1
  have b2:=b2 w hw rfl
  have ho:opR hV W w.lab=opT hV W w.lab:=(op_eq aW hd w.lab).symm
  have hle:=op_len aW hd w.lab
  have hk:=op_ok aW h0 hd w.lab
  rw[ie]
  refine Runs.seq (Runs.aP aj mixed _ (d1 f _ _ V Y L Z W g) ⟨beq_eq_false_iff_ne.2 (by omega),trivial⟩ (iJ f V W) (by cases Y.isEmpty<;>cases Z.isEmpty<;>kernel_rfl) fun g=> ?_)
  refine Runs.seq (Runs.aP aj mixed _ (e13 f V W w (IntKind.u64.wrap f.at_) (IntKind.u64.wrap V.length) q q g) ⟨rfl,rfl,by rw[hi64];omega,by rw[←q1],by rw[IntKind.wrap_i64];omega,by omega,by omega,t1,t2,trivial⟩ (iK f W w) rfl fun g=> ?_)
  have qf:=e14 hV rfl hE rfl hS rfl f W w (gM hV hE hS W).1 (bP w).hash (bP w) g
  have lw:Holds (lW W):=⟨by rw[bU];omega,Nat.le_refl _,by rw[nP,bW],by rw[nP,bW],by omega,by rw[nP,bW];exact aW,trivial⟩
  have e0:rdn (opT hV W w.lab)=ah (opT hV W w.lab):=dtn rfl
  have er:(gM hV hE hS W).1=(rofT hV hE hS W).1:=by rw[rof_eq aW]
  refine Runs.aP aj mixed _ qf (happ lw (happ ?_ (happ lw (happ ?_ ?_)))) (iR f) rfl fun g=>aH.ret (zr g _) rfl
  ·rw[nP,bW];exact⟨ok.1,by omega,hd,trivial⟩
  ·rw[nP,bW];exact⟨rfl,trivial⟩
  ·unfold oW
   rw[nP,bW,ho,e0,bE]
   exact⟨by rw[bH];omega,Nat.le_refl _,rfl,rfl,by unfold bK;omega,hk,ok.1,by rw[er,b2],ok,rfl,uF _,trivial⟩
theorem run (f:Fr) (ea eb ec:Bool) (hA:Arg ea f.A f.n f.c) (hB:Arg eb f.B f.m f.d) (hC:Arg ec f.C f.q f.r) (aA:bI f.A) (aB:bI f.B) (aC:bI f.C) (hb:f.n+f.m+f.q≤3200000):
  aF Tryd.prog GT 3 body (aK fn [sa ea f.a 0 f.n f.c,sa eb f.b 1 f.m f.d,sa ec f.s 2 f.q f.r,.o (.a (aG .i64 f.at_))]) (m0 f) END:=by
 refine Runs.lJ aj mixed 2 [0,1,2] (s0 f ea eb ec) trivial (i0 f ea eb ec) (by kernel_rfl) fun g=> ?_
 rw[body2]
 have nA:=hA.len
 have nB:=hB.len
 have nC:=hC.len
 generalize hX:bY f.A f.n=X
 have aX:bI X:=fun z hz=>aA z (dstA_mem f.A f.n (by omega) z (by rw[hX];exact hz))
 have eX:(X.map bP).Pairwise NeP:=by rw[←hX];exact dstA_ne _ _
 have lX:X.length≤f.n:=by rw[←hX];exact pX _ _
 generalize hY:apB X f.B f.m=Y
 have aY:bI Y:=fun z hz=>aB z (apB_mem X f.B f.m (by omega) z (by rw[hY];exact hz))
 have eY:((X++Y).map bP).Pairwise NeP:=by rw[←hY];exact apB_ne eX _ _
 have lY:Y.length≤f.m:=by rw[←hY];exact tK _ _ _
 generalize hZ:apB (X++Y) f.C f.q=Z
 have aZ:bI Z:=fun z hz=>aC z (apB_mem (X++Y) f.C f.q (by omega) z (by rw[hZ];exact hz))
 have eZ:(((X++Y)++Z).map bP).Pairwise NeP:=by rw[←hZ];exact apB_ne eY _ _
 have lZ:Z.length≤f.q:=by rw[←hZ];exact tK _ _ _
 have lL:(X++Y).length=X.length+Y.length:=List.length_append
 have lW:((X++Y)++Z).length=(X++Y).length+Z.length:=List.length_append
 refine Runs.seq (apart f hA hB hX hY g fun g=> ?_)
 refine Runs.seq (joined f (by omega) g fun g=> ?_)
 refine Runs.seq (apart2 f hC (by omega) (dst_all eY) hZ g fun g=> ?_)
 refine Runs.seq (joined2 f rfl (by omega) g fun g=> ?_)
 refine Runs.seq (stays hV rfl f aX aY eY (by omega) g fun g=> ?_)
 refine Runs.seq (stays2 hV rfl f rfl (aX.app aY) aZ eZ (by omega) _ _ g fun g=> ?_)
 refine Runs.seq (checked hV rfl hE rfl hS rfl f aX aY rfl aZ rfl eY eZ (by omega) g fun g=> ?_)
 exact last f rfl rfl aX ((aX.app aY).app aZ) eZ (by omega) g
end lgch
end Go.Proofs.YtdccehmekkcheaaDoor
