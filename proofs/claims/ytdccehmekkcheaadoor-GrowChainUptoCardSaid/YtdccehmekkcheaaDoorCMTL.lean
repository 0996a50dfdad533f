/- GrowChain: the region that joins the first two lists. -/
import Derived.Test.YtdccehmekkcheaaDoorCFo
import Derived.Test.YtdccehmekkcheaaDoorCGca
import Derived.Test.YtdccehmekkcheaaDoorCGas
import Derived.Test.YtdccehmekkcheaaDoorCTLa
import Derived.Test.YtdccehmekkcheaaDoorCMTI
import Derived.Test.YtdccehmekkcheaaDoorCAcP
set_option linter.unusedSimpArgs false
set_option linter.unusedVariables false
namespace Go.Proofs.YtdccehmekkcheaaDoor
open Go Go.Eng Go.RowKit
set_option maxRecDepth 100000
namespace lgch
def sj (e:Bool) (k l:Nat):SV:=bif e then .o (.a (.slc k 0 0 0)) else .o (.a (.slg k l))
def jb (e:Bool) (us:List Value) (lo:Nat) (hi:Option Nat):Blk:=bif e then ⟨true,LT,.lit []⟩ else ⟨true,LT,.grv 64 us lo hi⟩
def pk (k l:Nat):List Nat:=List.range k++[l]
noncomputable def Γa (e:Bool):Cons Tryd.prog GT:=bif e then [cpl12.conZ] else [cpl12.conP]
def vs (e:Bool) (Y:List Lf):List Value:=bif e then [] else ((lvals Y).drop (0+0)).take (Y.length*64)
def ln (e:Bool) (Y:List Lf):Nat:=bif e then 0 else Y.length
def cy (e:Bool) (Y:List Lf):Cst:=bif e then [] else [0+Y.length*64≤(lvals Y).length]
noncomputable def R4:Code:=cs1 (bM 3 body)
noncomputable def n4:Nat:=match R4 with | .region i _ _=>i | _=>0
theorem reg4:R4= .region n4 (opsOf R4) false:=by kernel_rfl
theorem nil4:((opsOf R4).toList.drop 3).drop 2=[]:=by kernel_rfl
theorem nil4':(opsOf R4).toList.drop 5=[]:=by kernel_rfl
abbrev k4 (ex ey:Bool):Nat:=up ey (up ex 3)
section
variable (f:Fr)
def M5 (ec ex ey:Bool) (X Y:List Lf) (l:Nat):List (Option SV):=aD 133 0 [(2,sa ec f.s 2 f.q f.r),(3,.o (.a (aG .i64 f.at_))),(9,sg ex 3 X),(10,sg ey (up ex 3) Y),(11,sj (ex&&ey) (k4 ex ey) l)]
def m5 (ex ey:Bool) (X Y:List Lf) (us:List Value) (lo:Nat) (hi:Option Nat):List Blk:=m0 f++(gb ex X++(gb ey Y++[jb (ex&&ey) us lo hi]))
theorem i5 (ec ex ey:Bool) (X Y:List Lf) (l:Nat) (us:List Value) (lo:Nat) (hi:Option Nat):gU (m5 f ex ey X Y us lo hi).length (M5 f ec ex ey X Y l) (m5 f ex ey X Y us lo hi)=true:=by cases ec<;>cases ex<;>cases ey<;>kernel_rfl
theorem j5 (ex ey:Bool) (X Y:List Lf) (us:List Value) (lo:Nat) (hi:Option Nat) (l:Nat) (hl:l=k4 ex ey∨l=k4 ex ey+1):inj (piF (pk (k4 ex ey) l)) 3 (m5 f ex ey X Y us lo hi).length=true:=by rcases hl with rfl | rfl<;>cases ex<;>cases ey<;>kernel_rfl
def M9 (ec ey:Bool) (X Y:List Lf):List (Option SV):=aD 133 0 [(2,sa ec f.s 2 f.q f.r),(3,.o (.a (aG .i64 f.at_))),(9,sg false 3 X),(10,sg ey 4 Y),(34,.o (.a (.slg (up ey 4) X.length))),(35,sg ey 4 Y)]
theorem i9 (ec ey:Bool) (X Y:List Lf) (us:List Value) (lo:Nat) (hi:Option Nat):gU (m5 f false ey X Y us lo hi).length (M9 f ec ey X Y) (m5 f false ey X Y us lo hi)=true:=by cases ec<;>cases ey<;>kernel_rfl
theorem jd (ec ey:Bool) (X Y:List Lf) (g:Nat→SV):jw (pk (up ey 4) (up ey 4)) (M9 f ec ey X Y) (eG (Γa false) tys (opsOf R4).toList (((opsOf R4).toList.drop 0).take 3) ⟨fill g 0 (M1 f ec false ey X Y),m1 f false ey X Y,[]⟩)=some ((live (M9 f ec ey X Y)).map (SV.ren (piF (pk (up ey 4) (up ey 4)))),(M9 f ec ey X Y).length,(m5 f false ey X Y (((lvals X).drop (0+0)).take (X.length*64)) X.length none).map (fun b=>some (b.ren (piF (pk (up ey 4) (up ey 4))))),[0+0+X.length*64≤(lvals X).length,X.length≤X.length,64=64,0<X.length,Room Tryd.prog LT X.length]):=by cases ec<;>cases ey<;>kernel_rfl
theorem jg (ec ey:Bool) (X Y:List Lf) (us:List Value) (g:Nat→SV):jw (pk (up ey 4) (up ey 4)) (M5 f ec false ey X Y (X.length+ln ey Y)) (eG (Γp false false) tys (opsOf R4).toList (((opsOf R4).toList.drop 3).take 2) ⟨fill g 0 (M9 f ec ey X Y),m5 f false ey X Y us (X.length+ln ey Y) none,[(36,[.dyn])]⟩)=some ((live (M5 f ec false ey X Y (X.length+ln ey Y))).map (SV.ren (piF (pk (up ey 4) (up ey 4)))),(M5 f ec false ey X Y (X.length+ln ey Y)).length,(m5 f false ey X Y (us++vs ey Y) (X.length+ln ey Y) none).map (fun b=>some (b.ren (piF (pk (up ey 4) (up ey 4))))),cy ey Y++[X.length*64=us.length,X.length+ln ey Y≤X.length+ln ey Y,∀v∈vs ey Y,v.oneCell'=true]):=by cases ec<;>cases ey<;>kernel_rfl
theorem jr (ec:Bool) (X Y:List Lf) (us:List Value) (lo:Nat) (g:Nat→SV):jw (pk 5 6) (M5 f ec false false X Y (X.length+Y.length)) (eG (Γp false false) tys (opsOf R4).toList (((opsOf R4).toList.drop 3).take 2) ⟨fill g 0 (M9 f ec false X Y),m5 f false false X Y us lo (some (X.length+Y.length)),[(36,[.dyn])]⟩)=some ((live (M5 f ec false false X Y (X.length+Y.length))).map (SV.ren (piF (pk 5 6))),(M5 f ec false false X Y (X.length+Y.length)).length,(m5 f false false X Y (us++vs false Y) (X.length+Y.length) none).map (fun b=>some (b.ren (piF (pk 5 6)))),cy false Y++[X.length*64=us.length,X.length+Y.length≤X.length+Y.length,Room Tryd.prog LT (X.length+Y.length)]):=by cases ec<;>kernel_rfl
theorem jz (ec:Bool) (X Y:List Lf) (g:Nat→SV):jw (pk 4 5) (M5 f ec true false X Y Y.length) (eG (Γa true) tys (opsOf R4).toList (((opsOf R4).toList.drop 0).take 5) ⟨fill g 0 (M1 f ec true false X Y),m1 f true false X Y,[]⟩)=some ((live (M5 f ec true false X Y Y.length)).map (SV.ren (piF (pk 4 5))),(M5 f ec true false X Y Y.length).length,(m5 f true false X Y (vs false Y) Y.length none).map (fun b=>some (b.ren (piF (pk 4 5)))),[0+Y.length*64≤(lvals Y).length,0<Y.length,Room Tryd.prog LT Y.length]):=by cases ec<;>kernel_rfl
theorem j0 (ec:Bool) (X Y:List Lf) (l:Nat) (us:List Value) (lo:Nat) (hi:Option Nat) (g:Nat→SV):jw (pk 3 3) (M5 f ec true true X Y l) (eG (Γa true) tys (opsOf R4).toList (((opsOf R4).toList.drop 0).take 5) ⟨fill g 0 (M1 f ec true true X Y),m1 f true true X Y,[(36,[.dyn])]⟩)=some ((live (M5 f ec true true X Y l)).map (SV.ren (piF (pk 3 3))),(M5 f ec true true X Y l).length,(m5 f true true X Y us lo hi).map (fun b=>some (b.ren (piF (pk 3 3)))),[0=0]):=by cases ec<;>kernel_rfl
end
theorem vs_eq (Y:List Lf):vs Y.isEmpty Y=lvals Y:=by
 cases Y with
 | nil=>rfl
 | cons y Y=>exact dtl rfl
theorem ln_eq (Y:List Lf):ln Y.isEmpty Y=Y.length:=by cases Y<;>rfl
theorem one_lv (l:List Lf):∀v∈lvals l,v.oneCell'=true:=fun v hv=>by
 unfold lvals at hv
 obtain⟨w,hw,hv⟩:=List.mem_flatten.1 hv
 obtain⟨z,_,rfl⟩:=List.mem_map.1 hw
 exact dst.oneLv z v hv
theorem joined (f:Fr) {ec:Bool} {X Y:List Lf} (hb:X.length+Y.length≤4000000) (g:Nat→SV) {Post:Ex→List SV→List Blk→Prop}
  (h:∀g,Post .normal (fill g 0 (M5 f ec X.isEmpty Y.isEmpty X Y (X++Y).length)) (m5 f X.isEmpty Y.isEmpty X Y (lvals (X++Y)) (X++Y).length none)):aF Tryd.prog GT 3 R4 (fill g 0 (M1 f ec X.isEmpty Y.isEmpty X Y)) (m1 f X.isEmpty Y.isEmpty X Y) Post:=by
 rw[reg4]
 refine Runs.region ?_
 have lY:(lvals Y).length=Y.length*64:=bU Y
 have lX:(lvals X).length=X.length*64:=bU X
 have dX:((lvals X).drop (0+0)).take (X.length*64)=lvals X:=dtl rfl
 have hv:=vs_eq Y
 have hl:=ln_eq Y
 rw[List.length_append,rV] at h
 cases X with
 | nil=>
  cases Y with
  | nil=>
   refine aS.aP aj 5 _ (j0 f ec [] [] (([]:List Lf).length+([]:List Lf).length) (lvals []++lvals []) (([]:List Lf).length+([]:List Lf).length) none g) ⟨rfl,trivial⟩ (i5 f ec true true [] [] _ _ _ _) (j5 f true true [] [] _ _ _ _ (.inl rfl)) fun g=> ?_
   rw[nil4'];exact aS.nil (h g)
  | cons y Y=>
   have q:=jz f ec [] (y::Y) g
   rw[show vs false (y::Y)=lvals (y::Y) from hv] at q
   have h:∀g,Post .normal (fill g 0 (M5 f ec true false [] (y::Y) (0+(y::Y).length))) (m5 f true false [] (y::Y) (lvals (y::Y)) (0+(y::Y).length) none):=h
   rw[Nat.zero_add] at h
   refine aS.aP aj 5 _ q ⟨by omega,Nat.succ_pos _,iw _ (by simp at hb ⊢;omega),trivial⟩ (i5 f ec true false [] _ _ _ _ _) (j5 f true false [] _ _ _ _ _ (.inr rfl)) fun g=> ?_
   rw[nil4'];exact aS.nil (h g)
 | cons x X=>
  have q:=jd f ec Y.isEmpty (x::X) Y g
  rw[dX] at q
  refine aS.aP aj 3 _ q ⟨by omega,Nat.le_refl _,rfl,Nat.succ_pos _,iw _ (by omega),trivial⟩ (i9 f ec Y.isEmpty _ Y _ _ _) (j5 f false Y.isEmpty (x::X) Y _ _ _ _ (.inl rfl)) fun g=> ?_
  have e:=jg f ec Y.isEmpty (x::X) Y (lvals (x::X))
  rw[hv,hl] at e
  cases Y with
  | nil=>
   refine aS.aP aj 2 _ (e g) ⟨by omega,Nat.le_refl _,(fun v hv=>by cases hv),trivial⟩ (i5 f ec false true _ [] _ _ _ _) (j5 f false true (x::X) [] _ _ _ _ (.inl rfl)) fun g=> ?_
   rw[nil4];exact aS.nil (h g)
  | cons y Y=>
   refine aS.mh 5 ((x::X).length+(y::Y).length) (own:=true) (ty:=LT) (s:=64) (vs:=lvals (x::X)) (lo:=(x::X).length) rfl ?_ ?_
   ·refine aS.aP aj 2 _ (e g) ⟨by omega,by omega,Nat.le_refl _,one_lv _,trivial⟩ (i5 f ec false false _ _ _ _ _ _) (j5 f false false (x::X) (y::Y) _ _ _ _ (.inl rfl)) fun g=> ?_
    rw[nil4];exact aS.nil (h g)
   ·have q:=jr f ec (x::X) (y::Y) (lvals (x::X)) (x::X).length g
    rw[show vs false (y::Y)=lvals (y::Y) from hv] at q
    refine aS.aP aj 2 _ q ⟨by omega,by omega,Nat.le_refl _,iw _ hb,trivial⟩ (i5 f ec false false _ _ _ _ _ _) (j5 f false false (x::X) (y::Y) _ _ _ _ (.inr rfl)) fun g=> ?_
    rw[nil4];exact aS.nil (h g)
end lgch
namespace lgch
noncomputable def R5:Code:=cs1 (bM 4 body)
theorem len5:(opsOf R5).toList.length=8:=by kernel_rfl
noncomputable def n5:Nat:=match R5 with | .region i _ _=>i | _=>0
theorem reg5:R5= .region n5 (opsOf R5) false:=by kernel_rfl
noncomputable def o5:Oper:=(opsOf R5).toList[2]'(by rw[len5];decide)
theorem drop5:(opsOf R5).toList.drop 2=o5::(opsOf R5).toList.drop 3:=by kernel_rfl
theorem nil5:((opsOf R5).toList.drop 3).drop 5=[]:=by kernel_rfl
theorem o5_op:o5.op= .call ⟨.value (.func 50), #[.tmp 38,.tmp 39],tsOf o5⟩:=by kernel_rfl
theorem o5_dst:o5.dst=some 40:=by kernel_rfl
theorem o5_gd:o5.guard=none:=by kernel_rfl
section
variable (e:Bool) (L:List Lf)
def ru:List Value:=bif e then (([]:List Value).drop (0+0)).take (0*64) else ((lvals L).drop (0+0)).take (L.length*64)
def lu:List Lf:=av (ru e L)
def nu:Nat:=bif e then 0 else L.length
def cu:Cst:=bif e then [0+0+0*64≤0,0≤0] else [0+0+L.length*64≤(lvals L).length,L.length≤L.length]
def clu:Cst:=[ru e L=lvals (lu e L),(lu e L).length=nu e L,nu e L≤4000000]
end
theorem lu_eq {e:Bool} {L:List Lf} (h:e=true→L=[]):lu e L=L:=by
 cases e with
 | true=>rw[h rfl];exact lope.lfDec0
 | false=>show av (((lvals L).drop (0+0)).take (L.length*64))=L;rw[dtl rfl,bW]
theorem nu_eq {e:Bool} {L:List Lf} (h:e=true→L=[]):nu e L=L.length:=by
 cases e with
 | true=>rw[h rfl];rfl
 | false=>rfl
theorem cu_ok (e:Bool) (L:List Lf):Holds (cu e L):=by
 cases e with
 | true=>exact⟨by omega,Nat.le_refl _,trivial⟩
 | false=>exact⟨by rw[bU];omega,Nat.le_refl _,trivial⟩
theorem clu_ok {e:Bool} {L:List Lf} (h:e=true→L=[]) (hb:L.length≤4000000):Holds (clu e L):=by
 refine⟨?_,by rw[lu_eq h,nu_eq h],by rw[nu_eq h];exact hb,trivial⟩
 rw[lu_eq h]
 cases e with
 | true=>rw[h rfl];rfl
 | false=>exact dtl rfl
abbrev DL (e:Bool) (L:List Lf):List Lf:=bY (lu e L) (nu e L)
abbrev DZ (f:Fr) (e ec:Bool) (L:List Lf):List Lf:=apB (DL e L) (lr ec f.C f.q) (nr ec f.q)
def p6 (ex ey ez:Bool):List Nat:=List.range (k4 ex ey+1)++(bif ez then [] else [up (ex&&ey) (k4 ex ey+1)])
section
variable (f:Fr)
def M6 (ex ey ez:Bool) (X Y:List Lf) (l:Nat) (Z:List Lf):List (Option SV):=aD 133 0 [(3,.o (.a (aG .i64 f.at_))),(9,sg ex 3 X),(10,sg ey (up ex 3) Y),(11,sj (ex&&ey) (k4 ex ey) l),(13,sg ez (k4 ex ey+1) Z)]
def m6 (ex ey ez:Bool) (X Y L Z:List Lf):List Blk:=m5 f ex ey X Y (lvals L) L.length none++gb ez Z
theorem i6 (ex ey ez:Bool) (X Y L Z:List Lf):gU (m6 f ex ey ez X Y L Z).length (M6 f ex ey ez X Y L.length Z) (m6 f ex ey ez X Y L Z)=true:=by cases ez<;>cases ex<;>cases ey<;>kernel_rfl
theorem j6 (ex ey ez:Bool) (X Y L Z:List Lf):inj (piF (p6 ex ey ez)) 3 (m6 f ex ey ez X Y L Z).length=true:=by cases ez<;>cases ex<;>cases ey<;>kernel_rfl
theorem cb (ec ex ey ez:Bool) (X Y L:List Lf) (h:(ex&&ey||ez)=true) (g:Nat→SV):outN (p6 ex ey ez) (M6 f ex ey ez X Y L.length (DZ f (ex&&ey) ec L)) (exec (Γp (ex&&ey) ez) tys 100 R5 ⟨fill g 0 (M5 f ec ex ey X Y L.length),m5 f ex ey X Y (lvals L) L.length none,[]⟩)=some (.normal,(live (M6 f ex ey ez X Y L.length (DZ f (ex&&ey) ec L))).map (SV.ren (piF (p6 ex ey ez))),(M6 f ex ey ez X Y L.length (DZ f (ex&&ey) ec L)).length,(m6 f ex ey ez X Y L (DZ f (ex&&ey) ec L)).map (fun b=>some (b.ren (piF (p6 ex ey ez)))),cu (ex&&ey) L++(cd ec f.C f.q f.r++(em (ex&&ey) (DL (ex&&ey) L)++(em ez (DZ f (ex&&ey) ec L)++(clu (ex&&ey) L++cl ec f.C f.q))))):=by
 cases ex<;>cases ey<;>cases ez<;>first | (cases h;done) | (cases ec<;>kernel_rfl)
def M7 (ec ex ey:Bool) (X Y L:List Lf):List (Option SV):=aD 133 0 [(3,.o (.a (aG .i64 f.at_))),(9,sg ex 3 X),(10,sg ey (up ex 3) Y),(11,sj (ex&&ey) (k4 ex ey) L.length),(38,sj (ex&&ey) (k4 ex ey) L.length),(39,sa ec f.s 2 f.q f.r)]
theorem i7 (ec ex ey:Bool) (X Y L:List Lf):gU (m5 f ex ey X Y (lvals L) L.length none).length (M7 f ec ex ey X Y L) (m5 f ex ey X Y (lvals L) L.length none)=true:=by cases ec<;>cases ex<;>cases ey<;>kernel_rfl
theorem j7 (ex ey:Bool) (X Y L:List Lf):inj (piF (List.range (k4 ex ey+1))) 3 (m5 f ex ey X Y (lvals L) L.length none).length=true:=by cases ex<;>cases ey<;>kernel_rfl
theorem u5 (ec ex ey:Bool) (X Y L:List Lf) (g:Nat→SV):jw (List.range (k4 ex ey+1)) (M7 f ec ex ey X Y L) (eG (Γp false false) tys (opsOf R5).toList (((opsOf R5).toList.drop 0).take 2) ⟨fill g 0 (M5 f ec ex ey X Y L.length),m5 f ex ey X Y (lvals L) L.length none,[]⟩)=some ((live (M7 f ec ex ey X Y L)).map (SV.ren (piF (List.range (k4 ex ey+1)))),(M7 f ec ex ey X Y L).length,(m5 f ex ey X Y (lvals L) L.length none).map (fun b=>some (b.ren (piF (List.range (k4 ex ey+1))))),[]):=by cases ec<;>cases ex<;>cases ey<;>kernel_rfl
def M8 (ec ex ey:Bool) (X Y L Z:List Lf):List (Option SV):=aD 133 0 [(3,.o (.a (aG .i64 f.at_))),(9,sg ex 3 X),(10,sg ey (up ex 3) Y),(11,sj (ex&&ey) (k4 ex ey) L.length),(38,sj (ex&&ey) (k4 ex ey) L.length),(39,sa ec f.s 2 f.q f.r),(40,iY [.a (.slg (k4 ex ey+1) L.length),.a (.slg (k4 ex ey+2) Z.length)])]
theorem setT5 (ec ex ey:Bool) (X Y L Z:List Lf) (g:Nat→SV):(fill g 0 (M7 f ec ex ey X Y L)).set 40 ((iY [.a (.slg 0 L.length),.a (.slg 1 Z.length)]).ren (fun i=>(m5 f ex ey X Y (lvals L) L.length none).length+i))=fill g 0 (M8 f ec ex ey X Y L Z):=by cases ec<;>cases ex<;>cases ey<;>kernel_rfl
theorem v5 (ec ex ey:Bool) (h:(ex&&ey)=false) (X Y L Z:List Lf) (g:Nat→SV):jw (p6 ex ey false) (M6 f ex ey false X Y L.length Z) (eG (Γp false false) tys (opsOf R5).toList (((opsOf R5).toList.drop 3).take 5) ⟨fill g 0 (M8 f ec ex ey X Y L Z),m5 f ex ey X Y (lvals L) L.length none++[gl L,gl Z],[]⟩)=some ((live (M6 f ex ey false X Y L.length Z)).map (SV.ren (piF (p6 ex ey false))),(M6 f ex ey false X Y L.length Z).length,(m6 f ex ey false X Y L Z).map (fun b=>some (b.ren (piF (p6 ex ey false)))),[]):=by cases ex<;>cases ey<;>first | (cases h;done) | (cases ec<;>kernel_rfl)
noncomputable def dl5 (ec ex ey:Bool) (X Y L:List Lf) (g:Nat→SV):=decOf (decL (fun k=>(m5 f ex ey X Y (lvals L) L.length none)[k]?) [] [.winv 64,.winv 64] ((#[.tmp 38,.tmp 39]:Array Operand).toList.map (jm (fill g 0 (M7 f ec ex ey X Y L)))))
theorem dl5_eq (ec ex ey:Bool) (X Y L:List Lf) (g:Nat→SV):decL (fun k=>(m5 f ex ey X Y (lvals L) L.length none)[k]?) [] [.winv 64,.winv 64] ((#[.tmp 38,.tmp 39]:Array Operand).toList.map (jm (fill g 0 (M7 f ec ex ey X Y L))))=some ((dl5 f ec ex ey X Y L g).1,(dl5 f ec ex ey X Y L g).2.1,(dl5 f ec ex ey X Y L g).2.2):=by cases ec<;>cases ex<;>cases ey<;>kernel_rfl
theorem dl5_c (ec ex ey:Bool) (X Y L:List Lf) (g:Nat→SV):(dl5 f ec ex ey X Y L g).2.2=cu (ex&&ey) L++cd ec f.C f.q f.r:=by cases ec<;>cases ex<;>cases ey<;>kernel_rfl
theorem dl5_ap (ec ex ey:Bool) (X Y L:List Lf) (g:Nat→SV):qG (dl5 f ec ex ey X Y L g).2.1 (bf (dl5 f ec ex ey X Y L g).1)=true:=by cases ec<;>cases ex<;>cases ey<;>kernel_rfl
theorem dl5_ls (ec ex ey:Bool) (X Y L:List Lf) (g:Nat→SV):apt.lists (dl5 f ec ex ey X Y L g).1=some ((lu (ex&&ey) L,nu (ex&&ey) L),(lr ec f.C f.q,nr ec f.q),clu (ex&&ey) L++cl ec f.C f.q):=by cases ec<;>cases ex<;>cases ey<;>kernel_rfl
end
theorem iem {X Y:List Lf}:(X.isEmpty&&Y.isEmpty)=(X++Y).isEmpty:=by cases X<;>cases Y<;>rfl
theorem apart2 (f:Fr) {ec:Bool} (hC:Arg ec f.C f.q f.r) {X Y Z:List Lf} (hb:(X++Y).length≤4000000) (hL:bY (X++Y) (X++Y).length=X++Y) (hZ:apB (X++Y) f.C f.q=Z) (g:Nat→SV) {Post:Ex→List SV→List Blk→Prop}
  (h:∀g,Post .normal (fill g 0 (M6 f X.isEmpty Y.isEmpty Z.isEmpty X Y (X++Y).length Z)) (m6 f X.isEmpty Y.isEmpty Z.isEmpty X Y (X++Y) Z)):aF Tryd.prog GT 3 R5 (fill g 0 (M5 f ec X.isEmpty Y.isEmpty X Y (X++Y).length)) (m5 f X.isEmpty Y.isEmpty X Y (lvals (X++Y)) (X++Y).length none) Post:=by
 have he:(X.isEmpty&&Y.isEmpty)=true→X++Y=[]:=fun e=>by rw[iem] at e;simpa using e
 have eL:DL (X.isEmpty&&Y.isEmpty) (X++Y)=X++Y:=by unfold DL;rw[lu_eq he,nu_eq he,hL]
 have eZ:DZ f (X.isEmpty&&Y.isEmpty) ec (X++Y)=Z:=by unfold DZ;rw[eL,hC.lr_eq,hC.nr_eq,hZ]
 have hcl:=happ (clu_ok he hb) hC.cl
 have hcu:=happ (cu_ok (X.isEmpty&&Y.isEmpty) (X++Y)) hC.cd
 cases ho:(X.isEmpty&&Y.isEmpty||Z.isEmpty) with
 | true=>
  have q:=cb f ec X.isEmpty Y.isEmpty Z.isEmpty X Y (X++Y) ho g
  rw[eL,eZ] at q
  exact Runs.aP aj mixed _ q (happ (cu_ok _ _) (happ hC.cd (happ (by rw[iem];exact em_ok _) (happ (em_ok Z) hcl)))) (i6 f _ _ _ X Y _ _) (j6 f _ _ _ X Y _ _) h
 | false=>
  have nx:(X.isEmpty&&Y.isEmpty)=false:=by cases hh:(X.isEmpty&&Y.isEmpty)<;>simp_all
  have nz:Z.isEmpty=false:=by cases hh:Z.isEmpty<;>simp_all
  rw[nz] at h
  rw[reg5]
  refine Runs.region ?_
  refine aS.aP aj 2 _ (u5 f ec X.isEmpty Y.isEmpty X Y (X++Y) g) trivial (i7 f ec _ _ X Y _) (j7 f _ _ X Y _) fun g=> ?_
  rw[drop5]
  refine apt.call2 o5_op o5_dst o5_gd (dl5_eq f ec _ _ X Y _ g) (by rw[dl5_c];exact hcu) (dl5_ap f ec _ _ X Y _ g) (dl5_ls f ec _ _ X Y _ g) hcl (by show DL _ _≠[];rw[eL];intro e;rw[iem,e] at nx;cases nx) (by show DZ _ _ _ _≠[];rw[eZ];intro e;rw[e] at nz;cases nz) ?_
  show aS _ _ _ _ _ (List.set _ _ ((iY [.a (.slg 0 (DL (X.isEmpty&&Y.isEmpty) (X++Y)).length),.a (.slg 1 (DZ f (X.isEmpty&&Y.isEmpty) ec (X++Y)).length)]).ren _)) (_++[gl (DL (X.isEmpty&&Y.isEmpty) (X++Y)),gl (DZ f (X.isEmpty&&Y.isEmpty) ec (X++Y))]) _
  rw[eL,eZ,setT5]
  refine aS.aP aj 5 _ (v5 f ec _ _ nx X Y (X++Y) Z g) trivial (i6 f _ _ _ X Y _ Z) (j6 f _ _ _ X Y _ Z) fun g=> ?_
  rw[nil5]
  exact aS.nil (h g)
end lgch
namespace lgch
noncomputable def R6:Code:=cs1 (bM 5 body)
noncomputable def n6:Nat:=match R6 with | .region i _ _=>i | _=>0
theorem reg6:R6= .region n6 (opsOf R6) false:=by kernel_rfl
theorem nil6:((opsOf R6).toList.drop 3).drop 2=[]:=by kernel_rfl
theorem nil6':(opsOf R6).toList.drop 5=[]:=by kernel_rfl
abbrev k6 (ex ey ez:Bool):Nat:=up ez (k4 ex ey+1)
section
variable (f:Fr) (ex ey ez:Bool)
def MA (X Y:List Lf) (l:Nat) (Z:List Lf) (k:Nat):List (Option SV):=aD 133 0 [(3,.o (.a (aG .i64 f.at_))),(9,sg ex 3 X),(10,sg ey (up ex 3) Y),(11,sj (ex&&ey) (k4 ex ey) l),(13,sg ez (k4 ex ey+1) Z),(14,sj (ex&&ey&&ez) (k6 ex ey ez) k)]
def mA (X Y L Z:List Lf) (us:List Value) (lo:Nat) (hi:Option Nat):List Blk:=m6 f ex ey ez X Y L Z++[jb (ex&&ey&&ez) us lo hi]
theorem iA (X Y L Z:List Lf) (k:Nat) (us:List Value) (lo:Nat) (hi:Option Nat):gU (mA f ex ey ez X Y L Z us lo hi).length (MA f ex ey ez X Y L.length Z k) (mA f ex ey ez X Y L Z us lo hi)=true:=by cases ex<;>cases ey<;>cases ez<;>kernel_rfl
theorem jA (X Y L Z:List Lf) (us:List Value) (lo:Nat) (hi:Option Nat) (l:Nat) (hl:l=k6 ex ey ez∨l=k6 ex ey ez+1):inj (piF (pk (k6 ex ey ez) l)) 3 (mA f ex ey ez X Y L Z us lo hi).length=true:=by rcases hl with rfl | rfl<;>cases ex<;>cases ey<;>cases ez<;>kernel_rfl
def MB (X Y L Z:List Lf):List (Option SV):=aD 133 0 [(3,.o (.a (aG .i64 f.at_))),(9,sg ex 3 X),(10,sg ey (up ex 3) Y),(11,sj (ex&&ey) (k4 ex ey) L.length),(13,sg ez (k4 ex ey+1) Z),(44,.o (.a (.slg (k6 ex ey ez) L.length))),(45,sg ez (k4 ex ey+1) Z)]
theorem iB (h:(ex&&ey)=false) (X Y L Z:List Lf) (us:List Value) (lo:Nat) (hi:Option Nat):gU (mA f ex ey ez X Y L Z us lo hi).length (MB f ex ey ez X Y L Z) (mA f ex ey ez X Y L Z us lo hi)=true:=by cases ex<;>cases ey<;>first | (cases h;done) | (cases ez<;>kernel_rfl)
theorem kd (h:(ex&&ey)=false) (X Y L Z:List Lf) (g:Nat→SV):jw (pk (k6 ex ey ez) (k6 ex ey ez)) (MB f ex ey ez X Y L Z) (eG (Γa false) tys (opsOf R6).toList (((opsOf R6).toList.drop 0).take 3) ⟨fill g 0 (M6 f ex ey ez X Y L.length Z),m6 f ex ey ez X Y L Z,[]⟩)=some ((live (MB f ex ey ez X Y L Z)).map (SV.ren (piF (pk (k6 ex ey ez) (k6 ex ey ez)))),(MB f ex ey ez X Y L Z).length,(mA f ex ey ez X Y L Z (((lvals L).drop (0+0)).take (L.length*64)) L.length none).map (fun b=>some (b.ren (piF (pk (k6 ex ey ez) (k6 ex ey ez))))),[0+0+L.length*64≤(lvals L).length,L.length≤L.length,64=64,0<L.length,Room Tryd.prog LT L.length]):=by cases ex<;>cases ey<;>first | (cases h;done) | (cases ez<;>kernel_rfl)
theorem kg (h:(ex&&ey)=false) (X Y L Z:List Lf) (us:List Value) (g:Nat→SV):jw (pk (k6 ex ey ez) (k6 ex ey ez)) (MA f ex ey ez X Y L.length Z (L.length+ln ez Z)) (eG (Γp false false) tys (opsOf R6).toList (((opsOf R6).toList.drop 3).take 2) ⟨fill g 0 (MB f ex ey ez X Y L Z),mA f ex ey ez X Y L Z us (L.length+ln ez Z) none,[(46,[.dyn])]⟩)=some ((live (MA f ex ey ez X Y L.length Z (L.length+ln ez Z))).map (SV.ren (piF (pk (k6 ex ey ez) (k6 ex ey ez)))),(MA f ex ey ez X Y L.length Z (L.length+ln ez Z)).length,(mA f ex ey ez X Y L Z (us++vs ez Z) (L.length+ln ez Z) none).map (fun b=>some (b.ren (piF (pk (k6 ex ey ez) (k6 ex ey ez))))),cy ez Z++[L.length*64=us.length,L.length+ln ez Z≤L.length+ln ez Z,∀v∈vs ez Z,v.oneCell'=true]):=by cases ex<;>cases ey<;>first | (cases h;done) | (cases ez<;>kernel_rfl)
end
theorem kr (f:Fr) (ex ey:Bool) (h:(ex&&ey)=false) (X Y L Z:List Lf) (us:List Value) (lo:Nat) (g:Nat→SV):jw (pk (k6 ex ey false) (k6 ex ey false+1)) (MA f ex ey false X Y L.length Z (L.length+Z.length)) (eG (Γp false false) tys (opsOf R6).toList (((opsOf R6).toList.drop 3).take 2) ⟨fill g 0 (MB f ex ey false X Y L Z),mA f ex ey false X Y L Z us lo (some (L.length+Z.length)),[(46,[.dyn])]⟩)=some ((live (MA f ex ey false X Y L.length Z (L.length+Z.length))).map (SV.ren (piF (pk (k6 ex ey false) (k6 ex ey false+1)))),(MA f ex ey false X Y L.length Z (L.length+Z.length)).length,(mA f ex ey false X Y L Z (us++vs false Z) (L.length+Z.length) none).map (fun b=>some (b.ren (piF (pk (k6 ex ey false) (k6 ex ey false+1))))),cy false Z++[L.length*64=us.length,L.length+Z.length≤L.length+Z.length,Room Tryd.prog LT (L.length+Z.length)]):=by cases ex<;>cases ey<;>first | (cases h;done) | kernel_rfl
theorem kz (f:Fr) (X Y L Z:List Lf) (g:Nat→SV):oU (pk 5 6) (Γa true) R6 0 5 (fill g 0 (M6 f true true false X Y L.length Z)) (m6 f true true false X Y L Z) [] (MA f true true false X Y L.length Z Z.length) (mA f true true false X Y L Z (vs false Z) Z.length none) [0+0+0*64≤0,0≤0,64=64,0=0,0+Z.length*64≤(lvals Z).length,0<Z.length,Room Tryd.prog LT Z.length]:=by delta oU;kernel_rfl
theorem k0 (f:Fr) (X Y L Z:List Lf) (l:Nat) (us:List Value) (lo:Nat) (hi:Option Nat) (g:Nat→SV):oU (pk 4 4) (Γa true) R6 0 5 (fill g 0 (M6 f true true true X Y L.length Z)) (m6 f true true true X Y L Z) [(46,[.dyn])] (MA f true true true X Y L.length Z l) (mA f true true true X Y L Z us lo hi) [0+0+0*64≤0,0≤0,64=64,0=0,0=0]:=by delta oU;kernel_rfl
theorem joined2 (f:Fr) {X Y L Z:List Lf} (hL:X++Y=L) (hb:L.length+Z.length≤4000000) (g:Nat→SV) {Post:Ex→List SV→List Blk→Prop}
  (h:∀g,Post .normal (fill g 0 (MA f X.isEmpty Y.isEmpty Z.isEmpty X Y L.length Z (L++Z).length)) (mA f X.isEmpty Y.isEmpty Z.isEmpty X Y L Z (lvals (L++Z)) (L++Z).length none)):aF Tryd.prog GT 3 R6 (fill g 0 (M6 f X.isEmpty Y.isEmpty Z.isEmpty X Y L.length Z)) (m6 f X.isEmpty Y.isEmpty Z.isEmpty X Y L Z) Post:=by
 rw[reg6]
 refine Runs.region ?_
 have lZ:(lvals Z).length=Z.length*64:=bU Z
 have lL:(lvals L).length=L.length*64:=bU L
 have dX:((lvals L).drop (0+0)).take (L.length*64)=lvals L:=dtl rfl
 have hv:=vs_eq Z
 have hl:=ln_eq Z
 have ie:(X.isEmpty&&Y.isEmpty)=L.isEmpty:=by rw[iem,hL]
 rw[List.length_append,rV] at h
 generalize hex:X.isEmpty=ex at*
 generalize hey:Y.isEmpty=ey at*
 cases L with
 | nil=>
  have e1:ex=true:=by cases ex<;>simp_all
  have e2:ey=true:=by cases ey<;>simp_all
  subst e1;subst e2
  cases Z with
  | nil=>
   refine aS.aP aj 5 _ (k0 f X Y [] [] (([]:List Lf).length+([]:List Lf).length) (lvals []++lvals []) (([]:List Lf).length+([]:List Lf).length) none g) ⟨by omega,by omega,rfl,rfl,rfl,trivial⟩ (iA f true true true X Y [] [] _ _ _ _) (jA f true true true X Y [] [] _ _ _ _ (.inl rfl)) fun g=> ?_
   rw[nil6'];exact aS.nil (h g)
  | cons y Z=>
   have q:=kz f X Y [] (y::Z) g
   rw[show vs false (y::Z)=lvals (y::Z) from hv] at q
   have h:∀g,Post .normal (fill g 0 (MA f true true false X Y 0 (y::Z) (0+(y::Z).length))) (mA f true true false X Y [] (y::Z) (lvals (y::Z)) (0+(y::Z).length) none):=h
   rw[Nat.zero_add] at h
   refine aS.aP aj 5 _ q ⟨by omega,by omega,rfl,rfl,by omega,Nat.succ_pos _,iw _ (by simp at hb ⊢;omega),trivial⟩ (iA f true true false X Y [] _ _ _ _ _) (jA f true true false X Y [] _ _ _ _ _ (.inr rfl)) fun g=> ?_
   rw[nil6'];exact aS.nil (h g)
 | cons x L=>
  have he:(ex&&ey)=false:=ie
  have q:=kd f ex ey Z.isEmpty he X Y (x::L) Z g
  rw[dX] at q
  refine aS.aP aj 3 _ q ⟨by omega,Nat.le_refl _,rfl,Nat.succ_pos _,iw _ (by omega),trivial⟩ (iB f ex ey Z.isEmpty he X Y _ Z _ _ _) (jA f ex ey Z.isEmpty X Y (x::L) Z _ _ _ _ (.inl rfl)) fun g=> ?_
  have e:=kg f ex ey Z.isEmpty he X Y (x::L) Z (lvals (x::L))
  rw[hv,hl] at e
  cases Z with
  | nil=>
   refine aS.aP aj 2 _ (e g) ⟨by omega,Nat.le_refl _,(fun v hv=>by cases hv),trivial⟩ (iA f ex ey true X Y _ [] _ _ _ _) (jA f ex ey true X Y (x::L) [] _ _ _ _ (.inl rfl)) fun g=> ?_
   rw[nil6];exact aS.nil (h g)
  | cons y Z=>
   refine aS.mh (k6 ex ey false) ((x::L).length+(y::Z).length) (own:=true) (ty:=LT) (s:=64) (vs:=lvals (x::L)) (lo:=(x::L).length) (by cases ex<;>cases ey<;>first | (cases he;done) | rfl) ?_ ?_
   ·rw[show(mA f ex ey ((y::Z).isEmpty) X Y (x::L) (y::Z) (lvals (x::L)) (x::L).length none).set (k6 ex ey false) ⟨true,LT,.grv 64 (lvals (x::L)) ((x::L).length+(y::Z).length) none⟩=mA f ex ey false X Y (x::L) (y::Z) (lvals (x::L)) ((x::L).length+(y::Z).length) none from by cases ex<;>cases ey<;>first | (cases he;done) | rfl]
    refine aS.aP aj 2 _ (e g) ⟨by omega,by omega,Nat.le_refl _,one_lv _,trivial⟩ (iA f ex ey false X Y _ _ _ _ _ _) (jA f ex ey false X Y (x::L) (y::Z) _ _ _ _ (.inl rfl)) fun g=> ?_
    rw[nil6];exact aS.nil (h g)
   ·rw[show(mA f ex ey ((y::Z).isEmpty) X Y (x::L) (y::Z) (lvals (x::L)) (x::L).length none).set (k6 ex ey false) ⟨true,LT,.grv 64 (lvals (x::L)) (x::L).length (some ((x::L).length+(y::Z).length))⟩=mA f ex ey false X Y (x::L) (y::Z) (lvals (x::L)) (x::L).length (some ((x::L).length+(y::Z).length)) from by cases ex<;>cases ey<;>first | (cases he;done) | rfl]
    have q:=kr f ex ey he X Y (x::L) (y::Z) (lvals (x::L)) (x::L).length g
    rw[show vs false (y::Z)=lvals (y::Z) from hv] at q
    refine aS.aP aj 2 _ q ⟨by omega,by omega,Nat.le_refl _,iw _ hb,trivial⟩ (iA f ex ey false X Y _ _ _ _ _ _) (jA f ex ey false X Y (x::L) (y::Z) _ _ _ _ (.inr rfl)) fun g=> ?_
    rw[nil6];exact aS.nil (h g)
end lgch
namespace lgch
abbrev NT':TypeId:=33
def rv (e:Bool) (us:List Value) (n:Nat):List Value:=bif e then (([]:List Value).drop (0+0)).take (0*64) else (us.drop (0+0)).take (n*64)
def rd (X:List Lf):List Value:=((lvals X).drop (0+0)).take (X.length*64)
def nv (e:Bool) (n:Nat):Nat:=bif e then 0 else n
def cv (e:Bool) (us:List Value) (n:Nat):Cst:=bif e then [0+0+0*64≤0,0≤0] else [0+0+n*64≤us.length,n≤n]
def cc (e:Bool) (X:List Lf):Cst:=bif e then [] else [0+0+X.length*64≤(lvals X).length,X.length≤X.length,64=64,0<X.length,Room Tryd.prog LT X.length]
def sn (e:Bool) (k l:Nat):SV:=bif e then .o (.a (.v (.slice none 0 0))) else .o (.a (.slg k l))
def gn (e:Bool) (T:List Nd):List Blk:=bif e then [] else [⟨true,NT',.grv 65 (ah T) T.length none⟩]
def bs (f:Fr) (ex ey ez:Bool) (X Y L Z W:List Lf):List (Nat × SV):=[(3,.o (.a (aG .i64 f.at_))),(9,sg ex 3 X),(10,sg ey (up ex 3) Y),(11,sj (ex&&ey) (k4 ex ey) L.length),(13,sg ez (k4 ex ey+1) Z),(14,sj (ex&&ey&&ez) (k6 ex ey ez) W.length)]
abbrev bm (f:Fr) (ex ey ez:Bool) (X Y L Z W:List Lf):List Blk:=mA f ex ey ez X Y L Z (lvals W) W.length none
abbrev k7 (ex ey ez:Bool):Nat:=k6 ex ey ez+1
noncomputable def Γs (H:Nd→Nd→B32) (hH:H=hV) (e:Bool):Cons Tryd.prog GT:=bif e then [gst.conZ H hH] else [gst.conP H hH]
section
variable (H:Nd→Nd→B32) (e1 e2:Bool) (u1:List Value) (n1:Nat) (u2:List Value) (n2:Nat)
noncomputable abbrev cS:Cst:=cv e1 u1 n1++(cv e2 u2 n2++[rv e1 u1 n1=lvals (av (rv e1 u1 n1)),(av (rv e1 u1 n1)).length=nv e1 n1,rv e2 u2 n2=lvals (av (rv e2 u2 n2)),(av (rv e2 u2 n2)).length=nv e2 n2,nv e1 n1+nv e2 n2≤4000000,bI (av (rv e1 u1 n1)),bI (av (rv e2 u2 n2)),bC (bq (av (rv e1 u1 n1)++av (rv e2 u2 n2)))=true,bif e1 then stT H (av (rv e1 u1 n1)) (av (rv e2 u2 n2))=[] else stT H (av (rv e1 u1 n1)) (av (rv e2 u2 n2))≠[]])
noncomputable abbrev tS:List Nd:=stT H (av (rv e1 u1 n1)) (av (rv e2 u2 n2))
end
noncomputable def R7:Code:=cs1 (bM 6 body)
noncomputable def n7:Nat:=match R7 with | .region i _ _=>i | _=>0
theorem reg7:R7= .region n7 (opsOf R7) false:=by kernel_rfl
theorem nil7:((opsOf R7).toList.drop 2).drop 8=[]:=by kernel_rfl
section
variable (f:Fr) (ex ey ez:Bool) (X Y L Z W:List Lf)
def MC:List (Option SV):=aD 133 0 (bs f ex ey ez X Y L Z W++[(49,sj ex (k7 ex ey ez) X.length)])
def mC (us:List Value):List Blk:=bm f ex ey ez X Y L Z W++[jb ex us X.length none]
theorem iC (us:List Value):gU (mC f ex ey ez X Y L Z W us).length (MC f ex ey ez X Y L Z W) (mC f ex ey ez X Y L Z W us)=true:=by cases ex<;>cases ey<;>cases ez<;>kernel_rfl
theorem jC (us:List Value):inj (piF (List.range (k7 ex ey ez+1))) 3 (mC f ex ey ez X Y L Z W us).length=true:=by cases ex<;>cases ey<;>cases ez<;>kernel_rfl
theorem sc (g:Nat→SV):jw (List.range (k7 ex ey ez+1)) (MC f ex ey ez X Y L Z W) (eG (Γa ex) tys (opsOf R7).toList (((opsOf R7).toList.drop 0).take 2) ⟨fill g 0 (MA f ex ey ez X Y L.length Z W.length),bm f ex ey ez X Y L Z W,[]⟩)=some ((live (MC f ex ey ez X Y L Z W)).map (SV.ren (piF (List.range (k7 ex ey ez+1)))),(MC f ex ey ez X Y L Z W).length,(mC f ex ey ez X Y L Z W (rd X)).map (fun b=>some (b.ren (piF (List.range (k7 ex ey ez+1))))),cc ex X):=by cases ex<;>cases ey<;>cases ez<;>kernel_rfl
def MD (t:Nat):List (Option SV):=aD 133 0 (bs f ex ey ez X Y L Z W++[(15,sn ex (k7 ex ey ez) t),(16,.o (.a (aG .i64 0)))])
def mD (T:List Nd):List Blk:=bm f ex ey ez X Y L Z W++gn ex T
end
def pD (k:Nat) (e:Bool):List Nat:=List.range k++(bif e then [] else [k+2])
theorem iD (f:Fr) (ex ey ez:Bool) (X Y L Z W:List Lf) (T:List Nd) (t:Nat):gU (mD f ex ey ez X Y L Z W T).length (MD f ex ey ez X Y L Z W t) (mD f ex ey ez X Y L Z W T)=true:=by cases ex<;>cases ey<;>cases ez<;>kernel_rfl
theorem jD (f:Fr) (ex ey ez:Bool) (X Y L Z W:List Lf) (T:List Nd):inj (piF (pD (k7 ex ey ez) ex)) 3 (mD f ex ey ez X Y L Z W T).length=true:=by cases ex<;>cases ey<;>cases ez<;>kernel_rfl
theorem st (H:Nd→Nd→B32) (hH:H=hV) (f:Fr) (ex ey ez:Bool) (X Y L Z W:List Lf) (us:List Value) (g:Nat→SV):jw (pD (k7 ex ey ez) ex) (MD f ex ey ez X Y L Z W (tS H ex ey us X.length (rd Y) Y.length).length) (eG (Γa ey++Γs H hH ex) tys (opsOf R7).toList (((opsOf R7).toList.drop 2).take 8) ⟨fill g 0 (MC f ex ey ez X Y L Z W),mC f ex ey ez X Y L Z W us,[]⟩)=some ((live (MD f ex ey ez X Y L Z W (tS H ex ey us X.length (rd Y) Y.length).length)).map (SV.ren (piF (pD (k7 ex ey ez) ex))),(MD f ex ey ez X Y L Z W (tS H ex ey us X.length (rd Y) Y.length).length).length,(mD f ex ey ez X Y L Z W (tS H ex ey us X.length (rd Y) Y.length)).map (fun b=>some (b.ren (piF (pD (k7 ex ey ez) ex)))),cc ey Y++cS H ex ey us X.length (rd Y) Y.length):=by cases ex<;>cases ey<;>cases ez<;>kernel_rfl
theorem rv_eq (X:List Lf):rv X.isEmpty (lvals X) X.length=lvals X:=by
 cases X with
 | nil=>rfl
 | cons x X=>exact dtl rfl
theorem nP (X:List Lf):rd X=lvals X:=dtl rfl
theorem nv_eq (X:List Lf):nv X.isEmpty X.length=X.length:=by cases X<;>rfl
theorem cv_ok (X:List Lf):Holds (cv X.isEmpty (lvals X) X.length):=by
 cases X with
 | nil=>exact⟨by omega,Nat.le_refl _,trivial⟩
 | cons x X=>exact⟨by rw[bU];omega,Nat.le_refl _,trivial⟩
theorem cc_ok {X:List Lf} (h:X.length≤4000000):Holds (cc X.isEmpty X):=by
 cases X with
 | nil=>trivial
 | cons x X=>exact⟨by rw[bU];omega,Nat.le_refl _,rfl,Nat.succ_pos _,iw _ h,trivial⟩
theorem tS_eq (H:Nd→Nd→B32) (X Y:List Lf):tS H X.isEmpty Y.isEmpty (lvals X) X.length (lvals Y) Y.length=stT H X Y:=by
 unfold tS;rw[rv_eq,rv_eq,bW,bW]
theorem cS_ok {H:Nd→Nd→B32} (hH:H=hV) {X Y:List Lf} (hX:bI X) (hY:bI Y) (hne:((X++Y).map bP).Pairwise NeP) (hb:X.length+Y.length≤4000000):Holds (cS H X.isEmpty Y.isEmpty (lvals X) X.length (lvals Y) Y.length):=by
 refine happ (cv_ok X) (happ (cv_ok Y) ?_)
 rw[rv_eq,rv_eq,bW,bW,nv_eq,nv_eq]
 refine⟨rfl,rfl,rfl,rfl,hb,hX,hY,kN (hX.app hY) (qg hne _ (Nat.le_refl _)),?_,trivial⟩
 cases X with
 | nil=>show stT H [] Y=[];unfold stT;rw[kX];rfl
 | cons x X=>
  show stT H (x::X) Y≠[]
  rw[hH]
  intro e
  obtain⟨_,hc,_⟩:=acp.stay hX hY hne
  obtain⟨p,hp,_⟩:=hc.all (bP x) (acp.memT.2 ⟨x,List.mem_cons_self,rfl⟩)
  rw[e] at hp
  cases hp
theorem stays (H:Nd→Nd→B32) (hH:H=hV) (f:Fr) {X Y L Z W:List Lf} (hX:bI X) (hY:bI Y) (hne:((X++Y).map bP).Pairwise NeP) (hb:X.length+Y.length≤4000000) (g:Nat→SV) {Post:Ex→List SV→List Blk→Prop}
  (h:∀g,Post .normal (fill g 0 (MD f X.isEmpty Y.isEmpty Z.isEmpty X Y L Z W (stT H X Y).length)) (mD f X.isEmpty Y.isEmpty Z.isEmpty X Y L Z W (stT H X Y))):aF Tryd.prog GT 3 R7 (fill g 0 (MA f X.isEmpty Y.isEmpty Z.isEmpty X Y L.length Z W.length)) (bm f X.isEmpty Y.isEmpty Z.isEmpty X Y L Z W) Post:=by
 rw[reg7]
 refine Runs.region ?_
 have q:=sc f X.isEmpty Y.isEmpty Z.isEmpty X Y L Z W g
 rw[nP] at q
 refine aS.aP aj 2 _ q (cc_ok (by omega)) (iC f _ _ _ X Y L Z W _) (jC f _ _ _ X Y L Z W _) fun g=> ?_
 have q:=st H hH f X.isEmpty Y.isEmpty Z.isEmpty X Y L Z W (lvals X) g
 rw[nP,tS_eq] at q
 refine aS.aP aj 8 _ q (happ (cc_ok (by omega)) (cS_ok hH hX hY hne hb)) (iD f _ _ _ X Y L Z W _ _) (jD f _ _ _ X Y L Z W _) fun g=> ?_
 rw[nil7]
 exact aS.nil (h g)
end lgch
namespace lgch
noncomputable def R8:Code:=cs1 (bM 7 body)
noncomputable def n8:Nat:=match R8 with | .region i _ _=>i | _=>0
theorem reg8:R8= .region n8 (opsOf R8) false:=by kernel_rfl
theorem nil8:((opsOf R8).toList.drop 2).drop 8=[]:=by kernel_rfl
abbrev k8 (ex ey ez:Bool):Nat:=up ex (k7 ex ey ez)
def ce (e:Bool) (X:List Lf):Cst:=bif e then [0+0+0*64≤0,0≤0,64=64,0=0] else [0+0+X.length*64≤(lvals X).length,X.length≤X.length,64=64,0<X.length,Room Tryd.prog LT X.length]
section
variable (f:Fr) (ex ey ez:Bool) (X Y L Z W:List Lf)
def b2 (t:Nat):List (Nat × SV):=bs f ex ey ez X Y L Z W++[(15,sn ex (k7 ex ey ez) t),(16,.o (.a (aG .i64 0)))]
def ME (t:Nat):List (Option SV):=aD 133 0 (b2 f ex ey ez X Y L Z W t++[(57,sj (ex&&ey) (k8 ex ey ez) L.length)])
def mE (T:List Nd) (us:List Value):List Blk:=mD f ex ey ez X Y L Z W T++[jb (ex&&ey) us L.length none]
theorem iE (T:List Nd) (t:Nat) (us:List Value):gU (mE f ex ey ez X Y L Z W T us).length (ME f ex ey ez X Y L Z W t) (mE f ex ey ez X Y L Z W T us)=true:=by cases ex<;>cases ey<;>cases ez<;>kernel_rfl
theorem jE (T:List Nd) (us:List Value):inj (piF (List.range (k8 ex ey ez+1))) 3 (mE f ex ey ez X Y L Z W T us).length=true:=by cases ex<;>cases ey<;>cases ez<;>kernel_rfl
theorem sd (T:List Nd) (t:Nat) (g:Nat→SV):jw (List.range (k8 ex ey ez+1)) (ME f ex ey ez X Y L Z W t) (eG (Γa (ex&&ey)) tys (opsOf R8).toList (((opsOf R8).toList.drop 0).take 2) ⟨fill g 0 (MD f ex ey ez X Y L Z W t),mD f ex ey ez X Y L Z W T,[]⟩)=some ((live (ME f ex ey ez X Y L Z W t)).map (SV.ren (piF (List.range (k8 ex ey ez+1)))),(ME f ex ey ez X Y L Z W t).length,(mE f ex ey ez X Y L Z W T (rd L)).map (fun b=>some (b.ren (piF (List.range (k8 ex ey ez+1))))),ce (ex&&ey) L):=by cases ex<;>cases ey<;>cases ez<;>kernel_rfl
def MF (t u:Nat):List (Option SV):=aD 133 0 (b2 f ex ey ez X Y L Z W t++[(17,sn (ex&&ey) (k8 ex ey ez) u),(18,.o (.a (aG .i64 0)))])
def mF (T U:List Nd):List Blk:=mD f ex ey ez X Y L Z W T++gn (ex&&ey) U
theorem iF (T U:List Nd) (t u:Nat):gU (mF f ex ey ez X Y L Z W T U).length (MF f ex ey ez X Y L Z W t u) (mF f ex ey ez X Y L Z W T U)=true:=by cases ex<;>cases ey<;>cases ez<;>kernel_rfl
theorem jF (T U:List Nd):inj (piF (pD (k8 ex ey ez) (ex&&ey))) 3 (mF f ex ey ez X Y L Z W T U).length=true:=by cases ex<;>cases ey<;>cases ez<;>kernel_rfl
end
theorem su (H:Nd→Nd→B32) (hH:H=hV) (f:Fr) (ex ey ez:Bool) (X Y L Z W:List Lf) (T:List Nd) (t:Nat) (us:List Value) (g:Nat→SV):jw (pD (k8 ex ey ez) (ex&&ey)) (MF f ex ey ez X Y L Z W t (tS H (ex&&ey) ez us L.length (rd Z) Z.length).length) (eG (Γa ez++Γs H hH (ex&&ey)) tys (opsOf R8).toList (((opsOf R8).toList.drop 2).take 8) ⟨fill g 0 (ME f ex ey ez X Y L Z W t),mE f ex ey ez X Y L Z W T us,[]⟩)=some ((live (MF f ex ey ez X Y L Z W t (tS H (ex&&ey) ez us L.length (rd Z) Z.length).length)).map (SV.ren (piF (pD (k8 ex ey ez) (ex&&ey)))),(MF f ex ey ez X Y L Z W t (tS H (ex&&ey) ez us L.length (rd Z) Z.length).length).length,(mF f ex ey ez X Y L Z W T (tS H (ex&&ey) ez us L.length (rd Z) Z.length)).map (fun b=>some (b.ren (piF (pD (k8 ex ey ez) (ex&&ey))))),cc ez Z++cS H (ex&&ey) ez us L.length (rd Z) Z.length):=by cases ex<;>cases ey<;>cases ez<;>kernel_rfl
theorem ce_ok {X:List Lf} (h:X.length≤4000000):Holds (ce X.isEmpty X):=by
 cases X with
 | nil=>exact⟨by omega,Nat.le_refl _,rfl,rfl,trivial⟩
 | cons x X=>exact⟨by rw[bU];omega,Nat.le_refl _,rfl,Nat.succ_pos _,iw _ h,trivial⟩
theorem stays2 (H:Nd→Nd→B32) (hH:H=hV) (f:Fr) {X Y L Z W:List Lf} (hL:X++Y=L) (aL:bI L) (hZ:bI Z) (hne:((L++Z).map bP).Pairwise NeP) (hb:L.length+Z.length≤4000000) (T:List Nd) (t:Nat) (g:Nat→SV) {Post:Ex→List SV→List Blk→Prop}
  (h:∀g,Post .normal (fill g 0 (MF f X.isEmpty Y.isEmpty Z.isEmpty X Y L Z W t (stT H L Z).length)) (mF f X.isEmpty Y.isEmpty Z.isEmpty X Y L Z W T (stT H L Z))):aF Tryd.prog GT 3 R8 (fill g 0 (MD f X.isEmpty Y.isEmpty Z.isEmpty X Y L Z W t)) (mD f X.isEmpty Y.isEmpty Z.isEmpty X Y L Z W T) Post:=by
 rw[reg8]
 refine Runs.region ?_
 have ie:(X.isEmpty&&Y.isEmpty)=L.isEmpty:=by rw[iem,hL]
 have q:=sd f X.isEmpty Y.isEmpty Z.isEmpty X Y L Z W T t g
 rw[nP] at q
 refine aS.aP aj 2 _ q (by rw[ie];exact ce_ok (by omega)) (iE f _ _ _ X Y L Z W _ _ _) (jE f _ _ _ X Y L Z W _ _) fun g=> ?_
 have q:=su H hH f X.isEmpty Y.isEmpty Z.isEmpty X Y L Z W T t (lvals L) g
 have e:tS H (X.isEmpty&&Y.isEmpty) Z.isEmpty (lvals L) L.length (lvals Z) Z.length=stT H L Z:=by rw[ie,tS_eq]
 rw[nP,e] at q
 refine aS.aP aj 8 _ q (happ (cc_ok (by omega)) (by rw[ie];exact cS_ok hH aL hZ hne hb)) (iF f _ _ _ X Y L Z W _ _ _ _) (jF f _ _ _ X Y L Z W _ _) fun g=> ?_
 rw[nil8]
 exact aS.nil (h g)
end lgch
end Go.Proofs.YtdccehmekkcheaaDoor
