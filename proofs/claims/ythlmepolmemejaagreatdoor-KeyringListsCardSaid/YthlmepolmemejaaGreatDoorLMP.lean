/- Package point: what its functions compute, limb for limb. -/
import Derived.Test.YthlmepolmemejaaGreatDoorLMF
import Derived.Test.YthlmepolmemejaaGreatDoorLMR
set_option linter.unusedVariables false
namespace Go.Proofs.YthlmepolmemejaaGreatDoor
open Go Go.Eng
set_option maxRecDepth 100000
structure P20 where
 x:E5
 y:E5
 z:E5
 t:E5
def P20.to (p:P20):List Int:=[p.x.l0,p.x.l1,p.x.l2,p.x.l3,p.x.l4,p.y.l0,p.y.l1,p.y.l2,p.y.l3,p.y.l4,p.z.l0,p.z.l1,p.z.l2,p.z.l3,p.z.l4,p.t.l0,p.t.l1,p.t.l2,p.t.l3,p.t.l4]
def P20.of:List Int→Option P20
 | [a0,a1,a2,a3,a4,b0,b1,b2,b3,b4,c0,c1,c2,c3,c4,d0,d1,d2,d3,d4]=>some ⟨⟨a0,a1,a2,a3,a4⟩,⟨b0,b1,b2,b3,b4⟩,⟨c0,c1,c2,c3,c4⟩,⟨d0,d1,d2,d3,d4⟩⟩
 | _=>none
theorem P20.iV:∀l a,P20.of l=some a→P20.to a=l:=by
 intro l a h
 unfold P20.of at h
 split at h<;>cases h
 rfl
def cP:Cod P20:=cRow .u64 P20.to P20.of P20.iV
def curveE:E5:=⟨929955233495203,466365720129213,1662059464998953,2033849074728123,1442794654840575⟩
def twiceE:E5:=⟨1859910466990425,932731440258426,1072319116312658,1815898335770999,633789495995903⟩
theorem curve_fn:ay Tryz.prog GX 80 [] (cE5.enc curveE):=
 ay.aD (Γ:=([]:Cons Tryz.prog GX)) ah mixed Tryz.func80 (n:=100) (orc:=[]) (cs:=[]) (by kernel_rfl) trivial rfl rfl
def uU:Con Tryz.prog GX:=con0 80 Tryz.f80 Tryz.func80 (by kernel_rfl) (by kernel_rfl) (cE5.enc curveE) [] rfl (fun _=>curve_fn)
theorem twice_fn:ay Tryz.prog GX 89 [] (cE5.enc twiceE):=
 ay.aD (Γ:=([]:Cons Tryz.prog GX)) ah mixed Tryz.func89 (n:=100) (orc:=[]) (cs:=[]) (by kernel_rfl) trivial rfl rfl
def twice_con:Con Tryz.prog GX:=con0 89 Tryz.f89 Tryz.func89 (by kernel_rfl) (by kernel_rfl) (cE5.enc twiceE) [] rfl (fun _=>twice_fn)
def mD:P20:=⟨⟨0,0,0,0,0⟩,oneE,oneE,⟨0,0,0,0,0⟩⟩
theorem origin_fn:ay Tryz.prog GX 88 [] (cP.enc mD):=
 ay.aD (Γ:=[u6]) ah mixed Tryz.func88 (n:=100) (orc:=[]) (cs:=[]) (by kernel_rfl) trivial rfl rfl
def origin_con:Con Tryz.prog GX:=con0 88 Tryz.f88 Tryz.func88 (by kernel_rfl) (by kernel_rfl) (cP.enc mD) [] rfl (fun _=>origin_fn)
def bxE:E5:=⟨1738742601995546,1146398526822698,2070867633025821,562264141797630,587772402128613⟩
def byE:E5:=⟨1801439850948184,1351079888211148,450359962737049,900719925474099,1801439850948198⟩
def pW:P20:=⟨bxE,byE,oneE,bJ bxE byE⟩
theorem pointB_fn:ay Tryz.prog GX 47 [] (cP.enc pW):=
 ay.aD (Γ:=[u6,gH]) ah mixed Tryz.func47 (n:=100) (orc:=[]) (cs:=[]) (by kernel_rfl) trivial rfl rfl
def pointB_con:Con Tryz.prog GX:=con0 47 Tryz.f47 Tryz.func47 (by kernel_rfl) (by kernel_rfl) (cP.enc pW) [] rfl (fun _=>pointB_fn)
def plusA (p q:P20):E5:=bJ (jE p.y p.x) (jE q.y q.x)
def plusB (p q:P20):E5:=bJ (mU p.y p.x) (mU q.y q.x)
def plusC (p q:P20):E5:=bJ (bJ p.t twiceE) q.t
def plusD (p q:P20):E5:=mU (bJ p.z q.z) (bJ p.z q.z)
def mixP (e f g h:E5):P20:=⟨bJ e f,bJ g h,bJ f g,bJ e h⟩
def pQ (p q:P20):P20:=mixP (jE (plusB p q) (plusA p q)) (jE (plusD p q) (plusC p q)) (mU (plusD p q) (plusC p q)) (mU (plusB p q) (plusA p q))
theorem pplus_fn (p:P20) (q:P20):ay Tryz.prog GX 49 [(cP).enc p,(cP).enc q] (cP.enc (pQ p q)):=
 ay.aD (Γ:=[gH,rF,jK,twice_con]) ah mixed Tryz.func49 (n:=100) (orc:=[]) (cs:=[]) (by kernel_rfl) trivial rfl rfl
def pplus_con:Con Tryz.prog GX:=jA 49 Tryz.f49 Tryz.func49 (by kernel_rfl) (by kernel_rfl) (cP) (cP) (fun p q=>cP.enc (pQ p q)) (fun _ _=>[]) (fun _ _=>rfl) (fun p q _=>pplus_fn p q)
section
variable (p:P20)
def dblA:E5:=bJ p.x p.x
def dblB:E5:=bJ p.y p.y
def dblC:E5:=mU (bJ p.z p.z) (bJ p.z p.z)
def dblS:E5:=mU p.x p.y
def dblH:E5:=mU (dblA p) (dblB p)
def dblE:E5:=jE (dblH p) (bJ (dblS p) (dblS p))
def dblG:E5:=jE (dblA p) (dblB p)
def dblF:E5:=mU (dblC p) (dblG p)
def dblP:P20:=mixP (dblE p) (dblF p) (dblG p) (dblH p)
theorem pdouble_fn:ay Tryz.prog GX 83 [(cP).enc p] (cP.enc (dblP p)):=
 ay.aD (Γ:=[gH,rF,jK]) ah mixed Tryz.func83 (n:=100) (orc:=[]) (cs:=[]) (by kernel_rfl) trivial rfl rfl
end
def AL:Con Tryz.prog GX:=fQ 83 Tryz.f83 Tryz.func83 (by kernel_rfl) (by kernel_rfl) (cP) (fun p=>cP.enc (dblP p)) (fun _=>[]) (fun _=>rfl) (fun p _=>pdouble_fn p)
def negP (p:P20):P20:=⟨jE zeroE p.x,p.y,p.z,jE zeroE p.t⟩
theorem pminus_fn (p:P20):ay Tryz.prog GX 50 [(cP).enc p] (cP.enc (negP p)):=
 ay.aD (Γ:=[jK]) ah mixed Tryz.func50 (n:=100) (orc:=[]) (cs:=[]) (by kernel_rfl) trivial rfl rfl
def pminus_con:Con Tryz.prog GX:=fQ 50 Tryz.f50 Tryz.func50 (by kernel_rfl) (by kernel_rfl) (cP) (fun p=>cP.enc (negP p)) (fun _=>[]) (fun _=>rfl) (fun p _=>pminus_fn p)
def clrP (p:P20):P20:=dblP (dblP (dblP p))
theorem pcleared_fn (p:P20):ay Tryz.prog GX 43 [(cP).enc p] (cP.enc (clrP p)):=
 ay.aD (Γ:=[AL]) ah mixed Tryz.func43 (n:=100) (orc:=[]) (cs:=[]) (by kernel_rfl) trivial rfl rfl
def vW:Con Tryz.prog GX:=fQ 43 Tryz.f43 Tryz.func43 (by kernel_rfl) (by kernel_rfl) (cP) (fun p=>cP.enc (clrP p)) (fun _=>[]) (fun _=>rfl) (fun p _=>pcleared_fn p)
def pyB (p:P20):B32:=gF (bJ p.y (invF p.z))
def pxO (p:P20):Bool:=oddF (bJ p.x (invF p.z))
def set31 (b:B32) (x:Int):B32:={ b with b31:=x }
def kS (p:P20):B32:=match pxO p with
 | true=>set31 (pyB p) (bits .or .u8 (pyB p).b31 128)
 | false=>pyB p
theorem pbytes_fn (p:P20):ay Tryz.prog GX 51 [cP.enc p] (ak.enc (kS p)):=by
 unfold kS
 cases h:pxO p with
 | true=>exact ay.aD (Γ:=[AX,gH,uW,vI]) ah mixed Tryz.func51 (n:=100) (orc:=[(17,[true])]) (cs:=[pxO p=true]) (by kernel_rfl) ⟨h,trivial⟩ rfl rfl
 | false=>exact ay.aD (Γ:=[AX,gH,uW,vI]) ah mixed Tryz.func51 (n:=100) (orc:=[(17,[false])]) (cs:=[pxO p=false]) (by kernel_rfl) ⟨h,trivial⟩ rfl rfl
def yN:Con Tryz.prog GX:=fQ 51 Tryz.f51 Tryz.func51 (by kernel_rfl) (by kernel_rfl) (cP) (fun p=>ak.enc (kS p)) (fun _=>[]) (fun _=>rfl) (fun p _=>pbytes_fn p)
def jQ:B32:=⟨1,0,0,0,0,0,0,0,0,0,0,0,0,0,0,0,0,0,0,0,0,0,0,0,0,0,0,0,0,0,0,0⟩
theorem pzero_fn:ay Tryz.prog GX 84 [] (ak.enc jQ):=
 ay.aD (Γ:=([]:Cons Tryz.prog GX)) ah mixed Tryz.func84 (n:=100) (orc:=[]) (cs:=[]) (by kernel_rfl) trivial rfl rfl
def pzero_con:Con Tryz.prog GX:=con0 84 Tryz.f84 Tryz.func84 (by kernel_rfl) (by kernel_rfl) (ak.enc jQ) [] rfl (fun _=>pzero_fn)
theorem porigin_fn (p:P20):ay Tryz.prog GX 44 [(cP).enc p] (aY.enc (eqB (kS p) jQ)):=
 ay.aD (Γ:=[yN,pzero_con]) ah mixed Tryz.func44 (n:=100) (orc:=[]) (cs:=[]) (by kernel_rfl) trivial rfl rfl
def xB:Con Tryz.prog GX:=fQ 44 Tryz.f44 Tryz.func44 (by kernel_rfl) (by kernel_rfl) (cP) (fun p=>aY.enc (eqB (kS p) jQ)) (fun _=>[]) (fun _=>rfl) (fun p _=>porigin_fn p)
def bH (b:B32):B32:=set31 b (bits .and .u8 b.b31 127)
def gY (b:B32):Bool:=(b.b31.fdiv (2^7))==1
def decY (b:B32):E5:=ofF (bH b)
def decU (b:B32):E5:=jE (bJ (decY b) (decY b)) oneE
def decV (b:B32):E5:=mU (bJ (bJ (decY b) (decY b)) curveE) oneE
def decX (b:B32):E5:=ratio2 (decU b) (decV b)
def decX' (b:B32):E5:=match gY b with
 | true=>jE zeroE (decX b)
 | false=>decX b
def dG (b:B32):Bool:=match eqB (gF (ofF (bH b))) (bH b) with
 | false=>false
 | true=>match jY (decU b) (decV b) with
  | false=>false
  | true=>match gY b with
   | false=>true
   | true=> !(isF (decX b) zeroE)
def noneP:P20:=⟨zeroE,zeroE,zeroE,zeroE⟩
def decP (b:B32):P20:=match dG b with
 | true=>⟨decX' b,decY b,oneE,bJ (decX' b) (decY b)⟩
 | false=>noneP
def jP (p:P20) (b:Bool):SV:= .t [.g (cP.row p),.a (iO b)]
theorem pof_fn (b:B32):ay Tryz.prog GX 42 [ak.enc b] (jP (decP b) (dG b)):=by
 unfold decP
 unfold dG decX'
 cases h1:eqB (gF (ofF (bH b))) (bH b) with
 | false=>exact ay.aD (Γ:=[oQ,of_con,gH,u6,uU,jK,rF,uG,tq]) ah mixed Tryz.func42 (n:=100) (orc:=[(19,[false])]) (cs:=[eqB (gF (ofF (bH b))) (bH b)=false]) (by kernel_rfl) ⟨h1,trivial⟩ rfl rfl
 | true=>
  simp only
  cases h2:jY (decU b) (decV b) with
  | false=>exact ay.aD (Γ:=[oQ,of_con,gH,u6,uU,jK,rF,uG,tq]) ah mixed Tryz.func42 (n:=100) (orc:=[(19,[true]),(38,[false])]) (cs:=[eqB (gF (ofF (bH b))) (bH b)=true,jY (decU b) (decV b)=false]) (by kernel_rfl) ⟨h1,h2,trivial⟩ rfl rfl
  | true=>
   simp only
   cases h3:gY b with
   | false=>exact ay.aD (Γ:=[oQ,of_con,gH,u6,uU,jK,rF,uG,tq]) ah mixed Tryz.func42 (n:=100) (orc:=[(13,[false]),(19,[true]),(38,[true])]) (cs:=[gY b=false,eqB (gF (ofF (bH b))) (bH b)=true,jY (decU b) (decV b)=true]) (by kernel_rfl) ⟨h3,h1,h2,trivial⟩ rfl rfl
   | true=>
    simp only
    cases h4:isF (decX b) zeroE with
    | true=>exact ay.aD (Γ:=[oQ,of_con,gH,u6,uU,jK,rF,uG,tq]) ah mixed Tryz.func42 (n:=100) (orc:=[(13,[true]),(19,[true]),(38,[true]),(46,[true])]) (cs:=[gY b=true,eqB (gF (ofF (bH b))) (bH b)=true,jY (decU b) (decV b)=true,isF (decX b) zeroE=true]) (by kernel_rfl) ⟨h3,h1,h2,h4,trivial⟩ rfl rfl
    | false=>exact ay.aD (Γ:=[oQ,of_con,gH,u6,uU,jK,rF,uG,tq]) ah mixed Tryz.func42 (n:=100) (orc:=[(13,[true]),(19,[true]),(38,[true]),(46,[false])]) (cs:=[gY b=true,eqB (gF (ofF (bH b))) (bH b)=true,jY (decU b) (decV b)=true,isF (decX b) zeroE=false]) (by kernel_rfl) ⟨h3,h1,h2,h4,trivial⟩ rfl rfl
def pof_con:Con Tryz.prog GX:=fQ 42 Tryz.f42 Tryz.func42 (by kernel_rfl) (by kernel_rfl) (ak) (fun b=>jP (decP b) (dG b)) (fun _=>[]) (fun _=>rfl) (fun b _=>pof_fn b)
def tabL' {α:Type} (f:Nat→α):Nat→List α
 | 0=>[]
 | n+1=>f n::tabL' f n
def tabR' {α:Type} (f:Nat→α):Nat→List α
 | 0=>[]
 | n+1=>f n::tabR' f n
theorem vQ {α:Type} {f g:Nat→α}:∀{n:Nat},tabL' f n=tabR' g n→∀j,j<n→f j=g j
 | 0,_,j,hj=>by omega
 | n+1,h,j,hj=>by
  simp only[tabL',tabR',List.cons.injEq] at h
  by_cases hjn:j=n
  ·subst hjn;exact h.1
  ·exact vQ h.2 j (by omega)
def dO (p:P20):Nat→P20
 | 0=>mD
 | 1=>p
 | k+2=>pQ (dO p (k+1)) p
def hiN (b:Int):Int:=b.fdiv (2^4)
def loN (b:Int):Int:=bits .and .u8 b 15
def mM (R:Nat→P20) (q:P20) (c:Int):P20:=pQ (dblP (dblP (dblP (dblP q)))) (R c.toNat)
def stepN (R:Nat→P20) (q:P20) (b:Int):P20:=mM R (mM R q (hiN b)) (loN b)
def jl (p:P20) (T:Nat→P20):Nat→P20
 | 0=>mD
 | 1=>p
 | k+2=>T (k+2)
theorem tZ {α β:Type} (x:α × β):(x.1,x.2)=x:=rfl
def uJ (R:Nat→P20) (n:B32):Nat→P20→P20
 | 0,q=>q
 | k+1,q=>uJ R n k (stepN R q (n.at k))
def gU (p:P20) (n:B32):P20:=uJ (jl p (dO p)) n 32 mD
namespace ptimes
noncomputable abbrev fn:=Tryz.f48
noncomputable def body:Code:=bZ fn
noncomputable def A:Code:=cs1 body
noncomputable def B:Code:=cs1 (cs2 body)
noncomputable def C:Code:=cs1 (cs2 (cs2 body))
noncomputable def R6:Code:=cs1 (cs2 (cs2 (cs2 body)))
noncomputable def R7:Code:=cs1 (cs1 (cs2 (cs2 (cs2 (cs2 body)))))
noncomputable def L:Code:=cL (cB (cs2 (cs1 (cs2 (cs2 (cs2 (cs2 body)))))))
noncomputable def H:Code:=cs1 L
noncomputable def R10:Code:=cs1 (cB (cs1 (cs2 L)))
noncomputable def LI:Code:=cL (cB (cs2 (cB (cs1 (cs2 L)))))
noncomputable def R9:Code:=cs2 (cs2 L)
noncomputable def D:Code:=cs2 (cs2 (cs2 (cs2 (cs2 body))))
theorem dX:body= .seq A (.seq B (.seq C (.seq R6 (.seq (.seq R7 (.block 2 (.loop L))) D)))):=by kernel_rfl
theorem L_eq:L= .seq H (.seq (.block 3 (.seq R10 (.block 4 (.loop LI)))) R9):=by kernel_rfl
noncomputable def Γ:Cons Tryz.prog GX:=[origin_con,pplus_con,AL]
section
variable (p:P20) (T:Nat→P20)
def rowI (i j:Nat):P20:=cond (Nat.blt j i) (jl p T j) noneP
def tabRow (i:Nat):List Atom:=cP.row (rowI p T i 0)++(cP.row (rowI p T i 1)++(cP.row (rowI p T i 2)++(cP.row (rowI p T i 3)++(cP.row (rowI p T i 4)++(cP.row (rowI p T i 5)++(cP.row (rowI p T i 6)++(cP.row (rowI p T i 7)++(cP.row (rowI p T i 8)++(cP.row (rowI p T i 9)++(cP.row (rowI p T i 10)++(cP.row (rowI p T i 11)++(cP.row (rowI p T i 12)++(cP.row (rowI p T i 13)++(cP.row (rowI p T i 14)++(cP.row (rowI p T i 15))))))))))))))))
def mem (n:B32) (q:P20):List Blk:=[⟨true,74,cP.row p⟩,⟨true,26,ak.row n⟩,⟨true,74,cP.row noneP⟩,⟨true,112,tabRow p T 16⟩,⟨true,74,cP.row q⟩]
def S (n:B32) (k:Nat) (q:P20) (g:Nat→SV):List SV × List Blk:=([cP.enc p,ak.enc n,.o (.a (.ptr 0 0)),.o (.a (.ptr 1 0)),.o (.a (.ptr 2 0)),.o (.a (.ptr 3 0)),g 6,.o (.a (.ptr 4 0)),(av .i64).enc ((k:Int)-1),g 9,g 10,g 11,g 12,g 13,g 14,g 15,g 16,g 17,g 18,g 19,g 20,g 21,g 22,g 23,g 24,g 25,g 26,g 27,g 28,g 29,g 30,g 31,g 32,g 33,g 34,g 35,g 36,g 37,g 38,g 39,g 40,g 41,g 42,g 43,g 44,g 45,g 46,g 47,g 48,g 49,g 50,g 51,g 52,g 53],mem p T n q)
def SI (n:B32) (k:Nat) (h l:Int) (j:Nat) (q:P20) (g:Nat→SV):List SV × List Blk:=([cP.enc p,ak.enc n,.o (.a (.ptr 0 0)),.o (.a (.ptr 1 0)),.o (.a (.ptr 2 0)),.o (.a (.ptr 3 0)),g 6,.o (.a (.ptr 4 0)),(av .i64).enc ((k:Int)-1),g 9,g 10,g 11,g 12,g 13,g 14,g 15,g 16,g 17,g 18,g 19,g 20,g 21,g 22,g 23,g 24,g 25,g 26,g 27,g 28,g 29,g 30,g 31,g 32,g 33,g 34,g 35,g 36,g 37,g 38,.o (.g [u8 h,u8 l]),(av .i64).enc (j:Int),g 41,g 42,g 43,g 44,g 45,g 46,g 47,g 48,g 49,g 50,g 51,g 52,g 53],mem p T n q)
end
noncomputable def s0 (p:P20) (T:Nat→P20) (n:B32):St:=⟨aH fn [cP.enc p,ak.enc n],[],[]⟩
noncomputable def s1 (p:P20) (T:Nat→P20) (n:B32):St:=dz Γ tys 100 A (s0 p T n)
noncomputable def R2:Code:=cs1 C
noncomputable def L1:Code:=cL (cB (cs2 C))
theorem C_eq:C= .seq R2 (.block 0 (.loop L1)):=by kernel_rfl
section
variable (p:P20) (T:Nat→P20) (n:B32)
def S1 (i:Nat) (g:Nat→SV):List SV × List Blk:=([cP.enc p,ak.enc n,.o (.a (.ptr 0 0)),.o (.a (.ptr 1 0)),.o (.a (.ptr 2 0)),.o (.a (.ptr 3 0)),(av .i64).enc (i:Int),g 7,g 8,g 9,g 10,g 11,g 12,g 13,g 14,g 15,g 16,g 17,g 18,g 19,g 20,g 21,g 22,g 23,g 24,g 25,g 26,g 27,g 28,g 29,g 30,g 31,g 32,g 33,g 34,g 35,g 36,g 37,g 38,g 39,g 40,g 41,g 42,g 43,g 44,g 45,g 46,g 47,g 48,g 49,g 50,g 51,g 52,g 53],[⟨true,74,cP.row p⟩,⟨true,26,ak.row n⟩,⟨true,74,cP.row noneP⟩,⟨true,112,tabRow p T i⟩])
noncomputable def st1 (i:Nat) (g:Nat→SV) (o:Orc):St:=⟨(S1 p T n i g).1,(S1 p T n i g).2,o⟩
noncomputable def s2:St:=dz Γ tys 100 B (s1 p T n)
theorem preA:exec Γ tys 100 A (s0 p T n)=some (.normal,s1 p T n,[]):=by kernel_rfl
theorem preB:exec Γ tys 100 B (s1 p T n)=some (.normal,⟨(s2 p T n).tm,(s2 p T n).mem,[]⟩,[]):=by kernel_rfl
theorem pre2:exec Γ tys 100 R2 ⟨(s2 p T n).tm,(s2 p T n).mem,[]⟩=some (.normal,st1 p T n 2 (outT Γ tys 100 R2 (s2 p T n)) [],[]):=by kernel_rfl
theorem rows (g:Nat→SV):tabL' (fun i=>exec Γ tys 100 L1 (st1 p T n (i+2) g [(24,[.s (cP.enc (T (i+2)))])])) 14=tabR' (fun i=>some (.normal,st1 p T n (i+3) (outT Γ tys 100 L1 (st1 p T n (i+2) g [(24,[.s (cP.enc (T (i+2)))])])) [(24,[])],[cP.enc (pQ (jl p T (i+1)) p)=cP.enc (T (i+2))])) 14:=by kernel_rfl
theorem rows0 (g:Nat→SV):exec Γ tys 100 L1 (st1 p T n 16 g [])=some (.exit 0,st1 p T n 16 (outT Γ tys 100 L1 (st1 p T n 16 g [])) [],[]):=by kernel_rfl
noncomputable def s4 (g:Nat→SV):St:=dz Γ tys 100 R6 (st1 p T n 16 g [])
theorem pre6 (g:Nat→SV):exec Γ tys 100 R6 (st1 p T n 16 g [])=some (.normal,⟨(s4 p T n g).tm,(s4 p T n g).mem,[]⟩,[]):=by kernel_rfl
noncomputable def g0 (g:Nat→SV):Nat→SV:=outT Γ tys 100 R7 (s4 p T n g)
theorem pre7 (g:Nat→SV):exec Γ tys 100 R7 ⟨(s4 p T n g).tm,(s4 p T n g).mem,[]⟩=some (.normal,⟨(S p T n 32 mD (g0 p T n g)).1,(S p T n 32 mD (g0 p T n g)).2,[]⟩,[]):=by kernel_rfl
noncomputable def st (k:Nat) (q:P20) (g:Nat→SV) (o:Orc):St:=⟨(S p T n k q g).1,(S p T n k q g).2,o⟩
noncomputable def sti (k:Nat) (h l:Int) (j:Nat) (q:P20) (g:Nat→SV) (o:Orc):St:=⟨(SI p T n k h l j q g).1,(SI p T n k h l j q g).2,o⟩
theorem head1 (k:Nat) (q:P20) (g:Nat→SV):exec Γ tys 100 H (st p T n k q g [(28,[true])])=some (.normal,st p T n k q (outT Γ tys 100 H (st p T n k q g [(28,[true])])) [(28,[])],[decide ((k:Int)-1≥0)=true]):=by kernel_rfl
theorem head0 (k:Nat) (q:P20) (g:Nat→SV):exec Γ tys 100 H (st p T n k q g [(28,[false])])=some (.exit 2,st p T n k q (outT Γ tys 100 H (st p T n k q g [(28,[false])])) [(28,[])],[decide ((k:Int)-1≥0)=false]):=by kernel_rfl
theorem nib (q:P20) (g:Nat→SV):tabL' (fun k=>exec Γ tys 100 R10 (st p T n (k+1) q g [])) 32=tabR' (fun k=>some (.normal,sti p T n (k+1) (hiN (n.at k)) (loN (n.at k)) 0 q (outT Γ tys 100 R10 (st p T n (k+1) q g [])) [],[])) 32:=by kernel_rfl
theorem in0 (k:Nat) (h l:Int) (q:P20) (g:Nat→SV):tabL' (fun c=>exec Γ tys 100 LI (sti p T n k h l 0 q g [(42,[.n c])])) 16=tabR' (fun c=>some (.normal,sti p T n k h l 1 (mM (jl p T) q c) (outT Γ tys 100 LI (sti p T n k h l 0 q g [(42,[.n c])])) [(42,[])],[h=(c:Int)])) 16:=by kernel_rfl
theorem in1 (k:Nat) (h l:Int) (q:P20) (g:Nat→SV):tabL' (fun c=>exec Γ tys 100 LI (sti p T n k h l 1 q g [(42,[.n c])])) 16=tabR' (fun c=>some (.normal,sti p T n k h l 2 (mM (jl p T) q c) (outT Γ tys 100 LI (sti p T n k h l 1 q g [(42,[.n c])])) [(42,[])],[l=(c:Int)])) 16:=by kernel_rfl
theorem in2 (k:Nat) (h l:Int) (q:P20) (g:Nat→SV):exec Γ tys 100 LI (sti p T n k h l 2 q g [])=some (.exit 4,sti p T n k h l 2 q (outT Γ tys 100 LI (sti p T n k h l 2 q g [])) [],[]):=by kernel_rfl
theorem next (k:Nat) (h l:Int) (q:P20) (g:Nat→SV):exec Γ tys 100 R9 (sti p T n (k+1) h l 2 q g [(30,[.n ((k:Int)-1)])])=some (.normal,st p T n k q (outT Γ tys 100 R9 (sti p T n (k+1) h l 2 q g [(30,[.n ((k:Int)-1)])])) [(30,[])],[IntKind.i64.wrap (((k+1:Nat):Int)-1-1)=(k:Int)-1]):=by kernel_rfl
noncomputable def fin (q:P20) (g:Nat→SV):St:=dz Γ tys 100 D (st p T n 0 q g [])
theorem post (q:P20) (g:Nat→SV):exec Γ tys 100 D (st p T n 0 q g [])=some (.ret,⟨(fin p T n q g).tm,(fin p T n q g).mem,[]⟩,[]):=by kernel_rfl
theorem result (q:P20) (g:Nat→SV):eRes tys (fin p T n q g).tm (fun k=>(fin p T n q g).mem[k]?) fn.results.toList=some [.g (cP.row q)]:=by kernel_rfl
end
end ptimes
def Nib (n:B32):Prop:=∀k,k<32→(0≤hiN (n.at k)∧hiN (n.at k)<16)∧(0≤loN (n.at k)∧loN (n.at k)<16)
theorem inner_step (p:P20) (T:Nat→P20) (n:B32) (k:Nat) (h l:Int) (q:P20) (g:Nat→SV) (hh:0≤h∧h<16) (hl:0≤l∧l<16) {Post:Ex→List SV→List Blk→Prop}
  (hp:∀g',Post .normal (ptimes.SI p T n k h l 2 (mM (jl p T) (mM (jl p T) q h) l) g').1 (ptimes.SI p T n k h l 2 (mM (jl p T) (mM (jl p T) q h) l) g').2):
  Runs Tryz.prog GX (.block 4 (.loop ptimes.LI)) (ptimes.SI p T n k h l 0 q g).1 (ptimes.SI p T n k h l 0 q g).2 Post:=by
 refine Runs.block ?_
 refine Runs.loop (fun(x:Nat × P20 × (Nat→SV))=>ptimes.SI p T n k h l x.1 x.2.1 x.2.2)
  (fun x=>(x.1=0∧x.2.1=q)∨(x.1=1∧x.2.1=mM (jl p T) q h)∨(x.1=2∧x.2.1=mM (jl p T) (mM (jl p T) q h) l)) (fun x=>2-x.1) ?_ (0,q,g) (.inl ⟨rfl,rfl⟩)
 rintro⟨j,q',g'⟩ hx
 simp only at hx
 rcases hx with⟨rfl,rfl⟩ | ⟨rfl,rfl⟩ | ⟨rfl,rfl⟩
 ·obtain⟨c,rfl⟩:=Int.eq_ofNat_of_zero_le hh.1
  exact Runs.aQ ah mixed (vQ (ptimes.in0 p T n k c l q' g') c (by omega)) ⟨rfl,trivial⟩ ⟨(1,mM (jl p T) q' (c:Int),outT ptimes.Γ tys 100 ptimes.LI (ptimes.sti p T n k (c:Int) l 0 q' g' [(42,[.n (c:Int)])])),tZ _,.inr (.inl ⟨rfl,rfl⟩),by simp only;omega⟩
 ·obtain⟨c,rfl⟩:=Int.eq_ofNat_of_zero_le hl.1
  exact Runs.aQ ah mixed (vQ (ptimes.in1 p T n k h c _ g') c (by omega)) ⟨rfl,trivial⟩ ⟨(2,mM (jl p T) (mM (jl p T) q h) (c:Int),outT ptimes.Γ tys 100 ptimes.LI (ptimes.sti p T n k h (c:Int) 1 (mM (jl p T) q h) g' [(42,[.n (c:Int)])])),tZ _,.inr (.inr ⟨rfl,rfl⟩),by simp only;omega⟩
 ·exact Runs.aQ ah mixed (ptimes.in2 p T n k h l _ g') trivial (hp _)
theorem tabP_step (p:P20) (i:Nat):pQ (jl p (dO p) (i+1)) p=dO p (i+2):=by
 cases i with
 | zero=>rw[jl,dO,dO]
 | succ i=>rw[jl,dO,dO,dO]
theorem rows_run (p:P20) (n:B32) (g:Nat→SV) {Post:Ex→List SV→List Blk→Prop} (hp:∀g',Post .normal (ptimes.S1 p (dO p) n 16 g').1 (ptimes.S1 p (dO p) n 16 g').2):
  Runs Tryz.prog GX (.block 0 (.loop ptimes.L1)) (ptimes.S1 p (dO p) n 2 g).1 (ptimes.S1 p (dO p) n 2 g).2 Post:=by
 refine Runs.block ?_
 refine Runs.loop (fun(x:Nat × (Nat→SV))=>ptimes.S1 p (dO p) n x.1 x.2) (fun x=>2≤x.1∧x.1≤16) (fun x=>16-x.1) ?_ (2,g) ⟨Nat.le_refl 2,by simp⟩
 rintro⟨i,g⟩ ⟨hi2,hi⟩
 simp only at hi2 hi
 obtain⟨i,rfl⟩:∃j,i=j+2:=⟨i-2,by omega⟩
 by_cases hlt:i<14
 ·exact Runs.aQ ah mixed (vQ (ptimes.rows p (dO p) n g) i hlt) ⟨congrArg cP.enc (tabP_step p i),trivial⟩
   ⟨(i+3,outT ptimes.Γ tys 100 ptimes.L1 (ptimes.st1 p (dO p) n (i+2) g [(24,[.s (cP.enc (dO p (i+2)))])])),tZ _,⟨by simp only;omega,by simp only;omega⟩,by simp only;omega⟩
 ·obtain rfl:i=14:=by omega
  exact Runs.aQ ah mixed (ptimes.rows0 p (dO p) n g) trivial (hp _)
theorem round_run (p:P20) (n:B32) (k:Nat) (q:P20) (g:Nat→SV) (hk:k<32) (hb:(0≤hiN (n.at k)∧hiN (n.at k)<16)∧(0≤loN (n.at k)∧loN (n.at k)<16)) {Post:Ex→List SV→List Blk→Prop}
  (hp:∀g',Post .normal (ptimes.S p (dO p) n k (stepN (jl p (dO p)) q (n.at k)) g').1 (ptimes.S p (dO p) n k (stepN (jl p (dO p)) q (n.at k)) g').2):
  Runs Tryz.prog GX ptimes.L (ptimes.S p (dO p) n (k+1) q g).1 (ptimes.S p (dO p) n (k+1) q g).2 Post:=by
 rw[ptimes.L_eq]
 refine Runs.seq (Runs.aQ ah mixed (ptimes.head1 p (dO p) n (k+1) q g) ⟨by simp,trivial⟩ ?_)
 refine Runs.seq (Runs.block (Runs.seq (Runs.aQ ah mixed (vQ (ptimes.nib p (dO p) n q _) k hk) trivial ?_)))
 refine inner_step p (dO p) n (k+1) (hiN (n.at k)) (loN (n.at k)) q _ hb.1 hb.2 fun g'=> ?_
 show Runs Tryz.prog GX ptimes.R9 _ _ _
 exact Runs.aQ ah mixed (ptimes.next p (dO p) n k _ _ _ g') ⟨by rw[IntKind.wrap_i64];omega,trivial⟩ (hp _)
theorem last_run (p:P20) (n:B32) (q:P20) (g:Nat→SV):Runs Tryz.prog GX ptimes.D (ptimes.S p (dO p) n 0 q g).1 (ptimes.S p (dO p) n 0 q g).2 (Go.Eng.Ends tys ptimes.fn (cP.enc q)):=
 Runs.aQ ah mixed (ptimes.post p (dO p) n q g) trivial (Ends.ret (ptimes.result p (dO p) n q g) rfl)
theorem outer_run (p:P20) (n:B32) (hn:Nib n) (g:Nat→SV) {Post:Ex→List SV→List Blk→Prop} (hp:∀g',Post .normal (ptimes.S p (dO p) n 0 (gU p n) g').1 (ptimes.S p (dO p) n 0 (gU p n) g').2):
  Runs Tryz.prog GX (.block 2 (.loop ptimes.L)) (ptimes.S p (dO p) n 32 mD g).1 (ptimes.S p (dO p) n 32 mD g).2 Post:=by
 refine Runs.block ?_
 refine Runs.loop (fun(x:Nat × P20 × (Nat→SV))=>ptimes.S p (dO p) n x.1 x.2.1 x.2.2) (fun x=>x.1≤32∧uJ (jl p (dO p)) n x.1 x.2.1=gU p n) (fun x=>x.1) ?_ (32,mD,g) ⟨Nat.le_refl 32,by rw[gU]⟩
 rintro⟨k,q,g⟩ ⟨hk,hr⟩
 simp only at hk hr
 cases k with
 | zero=>
  rw[ptimes.L_eq]
  refine Runs.seq (Runs.aQ ah mixed (ptimes.head0 p (dO p) n 0 q g) ⟨by decide,trivial⟩ ?_)
  rw[uJ] at hr
  subst hr
  exact hp _
 | succ k=>
  refine round_run p n k q g (by omega) (hn k (by omega)) fun g'=> ?_
  exact⟨(k,stepN (jl p (dO p)) q (n.at k),g'),tZ _,⟨by simp only;omega,by rw[uJ] at hr;exact hr⟩,Nat.lt_succ_self _⟩
theorem ptimes_fn (p:P20) (n:B32) (hpre:Holds [Nib n]):ay Tryz.prog GX 48 [cP.enc p,ak.enc n] (cP.enc (gU p n)):=by
 refine ay.u7 ah Tryz.func48 (c:=ptimes.body) (by kernel_rfl) ?_ rfl rfl
 rw[ptimes.dX]
 refine Runs.seq (Runs.aQ ah mixed (ptimes.preA p (dO p) n) trivial ?_)
 refine Runs.seq (Runs.aQ ah mixed (ptimes.preB p (dO p) n) trivial ?_)
 rw[ptimes.C_eq]
 refine Runs.seq (Runs.seq (Runs.aQ ah mixed (ptimes.pre2 p (dO p) n) trivial ?_))
 refine rows_run p n _ fun g=> ?_
 show Runs Tryz.prog GX (.seq ptimes.R6 (.seq (.seq ptimes.R7 (.block 2 (.loop ptimes.L))) ptimes.D)) _ _ _
 refine Runs.seq (Runs.aQ ah mixed (ptimes.pre6 p (dO p) n _) trivial ?_)
 refine Runs.seq (Runs.seq (Runs.aQ ah mixed (ptimes.pre7 p (dO p) n _) trivial ?_))
 refine outer_run p n hpre.1 _ fun g'=> ?_
 exact last_run p n _ g'
def ptimes_con:Con Tryz.prog GX:=jA 48 Tryz.f48 Tryz.func48 (by kernel_rfl) (by kernel_rfl) (cP) (ak) (fun p n=>cP.enc (gU p n)) (fun p n=>[Nib n]) (fun _ _=>rfl) (fun p n h=>ptimes_fn p n h)
def gZ (ok:Bool):Int:=match ok with
 | true=>0
 | false=>2
def tX (a:B32):B32:=match dG a with
 | true=>kS (clrP (decP a))
 | false=>aM
def pbaseB (n:B32):B32:=kS (gU pW n)
theorem pbase_fn (n:B32) (hp:Holds [Nib n]):ay Tryz.prog GX 63 [ak.enc n] (ak.enc (pbaseB n)):=
 ay.aD (Γ:=[pointB_con,ptimes_con,yN]) ah mixed Tryz.func63 (n:=100) (orc:=[]) (cs:=[Nib n]) (by kernel_rfl) hp rfl rfl
def pbase_con:Con Tryz.prog GX:=fQ 63 Tryz.f63 Tryz.func63 (by kernel_rfl) (by kernel_rfl) (ak) (fun n=>ak.enc (pbaseB n)) (fun n=>[Nib n]) (fun _=>rfl) (fun n h=>pbase_fn n h)
def gK (a:B32):Bool:=match dG a with
 | true=>eqB (kS (clrP (decP a))) jQ
 | false=>false
def dw (b:Bool) (e:Int):SV:= .t [.a (iO b),.a (aB .i64 e)]
theorem psmall_fn (a:B32):ay Tryz.prog GX 27 [ak.enc a] (dw (gK a) (gZ (dG a))):=by
 unfold gK
 cases h:dG a with
 | true=>exact ay.aD (Γ:=[pof_con,vW,xB]) ah mixed Tryz.func27 (n:=100) (orc:=[(10,[true])]) (cs:=[dG a=true]) (by kernel_rfl) ⟨h,trivial⟩ rfl rfl
 | false=>exact ay.aD (Γ:=[pof_con,vW,xB]) ah mixed Tryz.func27 (n:=100) (orc:=[(10,[false])]) (cs:=[dG a=false]) (by kernel_rfl) ⟨h,trivial⟩ rfl rfl
def oz:Con Tryz.prog GX:=fQ 27 Tryz.f27 Tryz.func27 (by kernel_rfl) (by kernel_rfl) (ak) (fun a=>dw (gK a) (gZ (dG a))) (fun _=>[]) (fun _=>rfl) (fun a _=>psmall_fn a)
abbrev Fp:=Fin pN
instance:NeZero pN:=⟨by decide⟩
def toF (n:Int):Fp:=⟨(n%pP).toNat,by
 have h0:0≤n%pP:=Int.emod_nonneg _ (by decide)
 have h1:n%pP<pP:=Int.emod_lt_of_pos _ (by decide)
 have:=sS
 omega⟩
theorem jS (n:Int):((toF n).val:Int)=n%pP:=Int.toNat_of_nonneg (Int.emod_nonneg _ (by decide))
theorem iH {a b:Int}:toF a=toF b↔a%pP=b%pP:=by
 constructor
 ·intro h
  rw[←jS,←jS,h]
 ·intro h
  apply Fin.ext
  have:((toF a).val:Int)=((toF b).val:Int):=by rw[jS,jS,h]
  exact_mod_cast this
theorem toF_of {x:Fp} {n:Int} (h:(x.val:Int)=n%pP):toF n=x:=by
 apply Fin.ext
 have:((toF n).val:Int)=(x.val:Int):=by rw[jS,h]
 exact_mod_cast this
theorem toF_add (a b:Int):toF (a+b)=toF a+toF b:=toF_of (by
 rw[Fin.val_add,Int.natCast_emod,Int.natCast_add,jS,jS,←sS,←Int.add_emod])
theorem kU (a b:Int):toF (a*b)=toF a*toF b:=toF_of (by
 rw[Fin.val_mul,Int.natCast_emod,Int.natCast_mul,jS,jS,←sS,←Int.mul_emod])
theorem toF_sub (a b:Int):toF (a-b)=toF a-toF b:=by
 have h:toF (a-b)+toF b=toF a:=by rw[←toF_add,Int.sub_add_cancel]
 rw[←h]
 generalize toF (a-b)=x
 generalize toF b=y
 grind
theorem q9:toF 0=0:=by decide
theorem toF_one:toF 1=1:=by decide
theorem jT (x:Fp):toF (x.val:Int)=x:=toF_of (by
 have:=x.isLt
 have e:=sS
 exact(Int.emod_eq_of_lt (by omega) (by omega)).symm)
theorem lJ {x y:Fp} (h:x*y=0):x=0∨y=0:=by
 rw[←jT x,←jT y,←kU,←q9,iH] at h
 rcases sV h with h | h
 ·left;rw[←jT x,←q9,iH];exact h
 ·right;rw[←jT y,←q9,iH];exact h
def finv (x:Fp):Fp:=toF ((x.val:Int)^(pN-2))
theorem eY {x:Fp} (h:x≠0):x*finv x=1:=by
 have h1:(x.val:Int)%pP≠0:=fun e=>h (by rw[←jT x,←q9,iH];exact e)
 have h2:=inv_mul h1
 unfold finv
 have e:toF (x.val:Int)*toF ((x.val:Int)^(pN-2))=1:=by
  rw[←kU,←toF_one,iH,h2]
  rfl
 rw[jT] at e
 exact e
theorem zu {x y z:Fp} (hz:z≠0) (h:x*z=y*z):x=y:=by
 have h1:=eY hz
 have:x*z*finv z=y*z*finv z:=by rw[h]
 grind
section
variable {R:Type} [Lean.Grind.CommRing R]
theorem curve_closure (d x1 y1 x2 y2:R) (h1:y1*y1-x1*x1=1+d*(x1*x1)*(y1*y1)) (h2:y2*y2-x2*x2=1+d*(x2*x2)*(y2*y2)):
  (y1*y2+x1*x2)*(y1*y2+x1*x2)*((1+d*x1*x2*y1*y2)*(1+d*x1*x2*y1*y2))-(x1*y2+y1*x2)*(x1*y2+y1*x2)*((1-d*x1*x2*y1*y2)*(1-d*x1*x2*y1*y2))=
  (1+d*x1*x2*y1*y2)*(1+d*x1*x2*y1*y2)*((1-d*x1*x2*y1*y2)*(1-d*x1*x2*y1*y2))+d*((x1*y2+y1*x2)*(x1*y2+y1*x2))*((y1*y2+x1*x2)*(y1*y2+x1*x2)):=by
 grind
set_option maxHeartbeats 4000000 in
theorem curve_assocX (d x1 y1 x2 y2 x3 y3:R) (h1:y1*y1-x1*x1=1+d*(x1*x1)*(y1*y1)) (h2:y2*y2-x2*x2=1+d*(x2*x2)*(y2*y2)) (h3:y3*y3-x3*x3=1+d*(x3*x3)*(y3*y3)):
  ((x1*y2+y1*x2)*(1-d*x1*x2*y1*y2)*y3+(y1*y2+x1*x2)*(1+d*x1*x2*y1*y2)*x3)*((1+d*x2*x3*y2*y3)*(1-d*x2*x3*y2*y3)+d*x1*y1*(x2*y3+y2*x3)*(y2*y3+x2*x3))=
  ((x2*y3+y2*x3)*(1-d*x2*x3*y2*y3)*y1+(y2*y3+x2*x3)*(1+d*x2*x3*y2*y3)*x1)*((1+d*x1*x2*y1*y2)*(1-d*x1*x2*y1*y2)+d*x3*y3*(x1*y2+y1*x2)*(y1*y2+x1*x2)):=by
 grind
set_option maxHeartbeats 4000000 in
theorem curve_assocY (d x1 y1 x2 y2 x3 y3:R) (h1:y1*y1-x1*x1=1+d*(x1*x1)*(y1*y1)) (h2:y2*y2-x2*x2=1+d*(x2*x2)*(y2*y2)) (h3:y3*y3-x3*x3=1+d*(x3*x3)*(y3*y3)):
  ((y1*y2+x1*x2)*(1+d*x1*x2*y1*y2)*y3+(x1*y2+y1*x2)*(1-d*x1*x2*y1*y2)*x3)*((1+d*x2*x3*y2*y3)*(1-d*x2*x3*y2*y3)-d*x1*y1*(x2*y3+y2*x3)*(y2*y3+x2*x3))=
  ((y2*y3+x2*x3)*(1+d*x2*x3*y2*y3)*y1+(x2*y3+y2*x3)*(1-d*x2*x3*y2*y3)*x1)*((1+d*x1*x2*y1*y2)*(1-d*x1*x2*y1*y2)-d*x3*y3*(x1*y2+y1*x2)*(y1*y2+x1*x2)):=by
 grind
end
def dF:Fp:=toF 37095705934669439343138083508754565189542113879843219016388785533085940283555
def OnC (p:Fp × Fp):Prop:=p.2*p.2-p.1*p.1=1+dF*(p.1*p.1)*(p.2*p.2)
theorem F_pow {x:Int} (hx:toF x≠0):x^(pN-1)%pP=1:=fermatP fun e=>hx (by rw[←q9,iH];exact e)
def dI:Int:=37095705934669439343138083508754565189542113879843219016388785533085940283555
theorem d_pow:dI^((pN-1)/2)%pP=(-1)%pP:=by
 rw[pow_nat]
 have h:(dI%pP).toNat=37095705934669439343138083508754565189542113879843219016388785533085940283555:=by decide
 rw[h,←powm_eq pN 255 _ _ (by decide)]
 have:powm pN 255 37095705934669439343138083508754565189542113879843219016388785533085940283555 ((pN-1)/2)=pN-1:=by kernel_rfl
 rw[this]
 decide
theorem dQ {x y:Fp} (hx:x≠0) (hy:y≠0):x*y≠0:=fun h=>by
 rcases lJ h with h | h
 ·exact hx h
 ·exact hy h
theorem oO:(1:Fp)≠0:=by decide
theorem two_ne:(2:Fp)≠0:=by decide
theorem d_nonsq {u v:Fp} (h:dF*(u*u)=v*v):u=0:=by
 apply Classical.byContradiction
 intro hu
 have hi:=eY hu
 have hw:(v*finv u)*(v*finv u)=dF:=by
  have:v*v*(finv u*finv u)=dF*((u*finv u)*(u*finv u)):=by rw[←h];grind
  rw[hi] at this
  grind
 have hw':toF (((v*finv u).val:Int)*((v*finv u).val:Int))=toF dI:=by rw[kU,jT];exact hw
 rw[iH] at hw'
 have hne:(v*finv u)≠0:=fun e=>by
  rw[e] at hw
  have:dF=0:=by rw[←hw];grind
  revert this
  decide
 have h1:=F_pow (x:=((v*finv u).val:Int)) (by rw[jT];exact hne)
 have h2:=d_pow
 rw[l5,←hw',←l5,Int.mul_pow,←Int.pow_add] at h2
 rw[show(pN-1)/2+(pN-1)/2=pN-1 from by decide,h1] at h2
 revert h2
 decide
def jF:Fp:=toF Jn
theorem jF_sq:jF*jF= -1:=by
 unfold jF
 rw[←kU]
 have:toF (Jn*Jn)=toF (-1):=by rw[iH];exact Jn_sq
 rw[this]
 decide
theorem complete {x1 y1 x2 y2 e:Fp} (h1:OnC (x1,y1)) (h2:OnC (x2,y2)) (he:e=dF*x1*x2*y1*y2) (hs:e*e=1):False:=by
 unfold OnC at h1 h2
 simp only at h1 h2
 have hj:=jF_sq
 have k1:dF*((x1*y1*(jF*x2+y2))*(x1*y1*(jF*x2+y2)))=(jF*x1+e*y1)*(jF*x1+e*y1):=by
  generalize dF=d at*
  generalize jF=j at*
  grind
 have k2:dF*((x1*y1*(jF*x2-y2))*(x1*y1*(jF*x2-y2)))=(jF*x1-e*y1)*(jF*x1-e*y1):=by
  generalize dF=d at*
  generalize jF=j at*
  grind
 have z1:=d_nonsq k1
 have z2:=d_nonsq k2
 have hne:e≠0:=fun h=>by rw[h] at hs;exact oO (by rw[←hs];grind)
 have hxy:x1*y1≠0:=fun h=>hne (by rw[he];generalize dF=d at*;grind)
 have hy:y2=0:=by
  rcases lJ z1 with h | h
  ·exact absurd h hxy
  ·rcases lJ z2 with h' | h'
   ·exact absurd h' hxy
   ·have:(2:Fp)*y2=0:=by generalize jF=j at*;grind
    rcases lJ this with h'' | h''
    ·exact absurd h'' two_ne
    ·exact h''
 exact hne (by rw[he,hy];generalize dF=d at*;grind)
theorem den_pos {p q:Fp × Fp} (hp:OnC p) (hq:OnC q):1+dF*p.1*q.1*p.2*q.2≠0:=fun h=>
 complete (e:=dF*p.1*q.1*p.2*q.2) hp hq rfl (by generalize dF*p.1*q.1*p.2*q.2=e at*;grind)
theorem nT {p q:Fp × Fp} (hp:OnC p) (hq:OnC q):1-dF*p.1*q.1*p.2*q.2≠0:=fun h=>
 complete (e:=dF*p.1*q.1*p.2*q.2) hp hq rfl (by generalize dF*p.1*q.1*p.2*q.2=e at*;grind)
def gG (p q:Fp × Fp):Fp × Fp:=((p.1*q.2+p.2*q.1)*finv (1+dF*p.1*q.1*p.2*q.2),(p.2*q.2+p.1*q.1)*finv (1-dF*p.1*q.1*p.2*q.2))
def oC:Fp × Fp:=(0,1)
def negC (p:Fp × Fp):Fp × Fp:=(-p.1,p.2)
theorem mE {p q:Fp × Fp} (hp:OnC p) (hq:OnC q):OnC (gG p q):=by
 have ha:=eY (den_pos hp hq)
 have hb:=eY (nT hp hq)
 unfold OnC at hp hq
 obtain⟨x1,y1⟩:=p
 obtain⟨x2,y2⟩:=q
 have hc:=curve_closure dF x1 y1 x2 y2 hp hq
 unfold OnC gG
 simp only at*
 generalize finv (1+dF*x1*x2*y1*y2)=a at*
 generalize finv (1-dF*x1*x2*y1*y2)=b at*
 generalize (1+dF*x1*x2*y1*y2)=A at*
 generalize (1-dF*x1*x2*y1*y2)=B at*
 generalize (y1*y2+x1*x2)=Y at*
 generalize (x1*y2+y1*x2)=X at*
 generalize dF=d at*
 clear hp hq
 have e1:Y*b*(Y*b)-X*a*(X*a)=(Y*Y*(A*A)-X*X*(B*B))*(a*a*(b*b)):=by grind
 rw[e1,hc]
 grind
theorem Aq (p q:Fp × Fp):gG p q=gG q p:=by
 unfold gG
 have e1:dF*p.1*q.1*p.2*q.2=dF*q.1*p.1*q.2*p.2:=by generalize dF=d;grind
 have e2:p.1*q.2+p.2*q.1=q.1*p.2+q.2*p.1:=by grind
 have e3:p.2*q.2+p.1*q.1=q.2*p.2+q.1*p.1:=by grind
 rw[e1,e2,e3]
theorem frac_eq {n1 d1 n2 d2:Fp} (h1:d1≠0) (h2:d2≠0) (h:n1*d2=n2*d1):n1*finv d1=n2*finv d2:=by
 have a:=eY h1
 have b:=eY h2
 generalize finv d1=i at*
 generalize finv d2=j at*
 have:n1*d2*(i*j)=n2*d1*(i*j):=by rw[h]
 grind
section
variable {R:Type} [Lean.Grind.CommRing R]
section
variable {A B i j:R}
theorem g1 (a:A*i=1) (b:B*j=1) (X Y x y:R):(X*i*y+Y*j*x)*(A*B)=X*B*y+Y*A*x:=by grind
theorem g2 (a:A*i=1) (b:B*j=1) (d X Y x y:R):(1+d*(X*i)*x*(Y*j)*y)*(A*B)=A*B+d*x*y*X*Y:=by grind
theorem g3 (a:A*i=1) (b:B*j=1) (X Y x y:R):(x*(Y*j)+y*(X*i))*(A*B)=X*B*y+Y*A*x:=by grind
theorem g4 (a:A*i=1) (b:B*j=1) (d X Y x y:R):(1+d*x*(X*i)*y*(Y*j))*(A*B)=A*B+d*x*y*X*Y:=by grind
theorem g5 (a:A*i=1) (b:B*j=1) (X Y x y:R):(Y*j*y+X*i*x)*(A*B)=Y*A*y+X*B*x:=by grind
theorem g6 (a:A*i=1) (b:B*j=1) (d X Y x y:R):(1-d*(X*i)*x*(Y*j)*y)*(A*B)=A*B-d*x*y*X*Y:=by grind
theorem g7 (a:A*i=1) (b:B*j=1) (X Y x y:R):(y*(Y*j)+x*(X*i))*(A*B)=Y*A*y+X*B*x:=by grind
theorem g8 (a:A*i=1) (b:B*j=1) (d X Y x y:R):(1-d*x*(X*i)*y*(Y*j))*(A*B)=A*B-d*x*y*X*Y:=by grind
end
theorem g9 {N1 D1 N2 D2 A B:R} (h:(N1*A)*(D2*B)=(N2*B)*(D1*A)):N1*D2*(A*B)=N2*D1*(A*B):=by grind
end
theorem tO {p q r:Fp × Fp} (hp:OnC p) (hq:OnC q) (hr:OnC r):gG (gG p q) r=gG p (gG q r):=by
 have hpq:=mE hp hq
 have hqr:=mE hq hr
 have n1:=den_pos hpq hr
 have n2:=nT hpq hr
 have n3:=den_pos hp hqr
 have n4:=nT hp hqr
 have a1:=eY (den_pos hp hq)
 have a2:=eY (nT hp hq)
 have a3:=eY (den_pos hq hr)
 have a4:=eY (nT hq hr)
 have z1:=den_pos hp hq
 have z2:=nT hp hq
 have z3:=den_pos hq hr
 have z4:=nT hq hr
 have hx:=curve_assocX dF p.1 p.2 q.1 q.2 r.1 r.2 hp hq hr
 have hy:=curve_assocY dF p.1 p.2 q.1 q.2 r.1 r.2 hp hq hr
 clear hpq hqr hp hq hr
 obtain⟨x1,y1⟩:=p
 obtain⟨x2,y2⟩:=q
 obtain⟨x3,y3⟩:=r
 unfold gG at*
 simp only at*
 generalize finv (1+dF*x1*x2*y1*y2)=i1 at*
 generalize finv (1-dF*x1*x2*y1*y2)=i2 at*
 generalize finv (1+dF*x2*x3*y2*y3)=i3 at*
 generalize finv (1-dF*x2*x3*y2*y3)=i4 at*
 generalize (1+dF*x1*x2*y1*y2)=A1 at*
 generalize (1-dF*x1*x2*y1*y2)=A2 at*
 generalize (1+dF*x2*x3*y2*y3)=A3 at*
 generalize (1-dF*x2*x3*y2*y3)=A4 at*
 generalize (x1*y2+y1*x2)=X12 at*
 generalize (y1*y2+x1*x2)=Y12 at*
 generalize (x2*y3+y2*x3)=X23 at*
 generalize (y2*y3+x2*x3)=Y23 at*
 have hz:A1*A2*(A3*A4)≠0:=dQ (dQ z1 z2) (dQ z3 z4)
 generalize dF=d at*
 have e1:(X12*i1*y3+Y12*i2*x3)*(A1*A2)=X12*A2*y3+Y12*A1*x3:=g1 a1 a2 X12 Y12 x3 y3
 have e2:(1+d*(X12*i1)*x3*(Y12*i2)*y3)*(A1*A2)=A1*A2+d*x3*y3*X12*Y12:=g2 a1 a2 d X12 Y12 x3 y3
 have e3:(x1*(Y23*i4)+y1*(X23*i3))*(A3*A4)=X23*A4*y1+Y23*A3*x1:=g3 a3 a4 X23 Y23 x1 y1
 have e4:(1+d*x1*(X23*i3)*y1*(Y23*i4))*(A3*A4)=A3*A4+d*x1*y1*X23*Y23:=g4 a3 a4 d X23 Y23 x1 y1
 have e5:(Y12*i2*y3+X12*i1*x3)*(A1*A2)=Y12*A1*y3+X12*A2*x3:=g5 a1 a2 X12 Y12 x3 y3
 have e6:(1-d*(X12*i1)*x3*(Y12*i2)*y3)*(A1*A2)=A1*A2-d*x3*y3*X12*Y12:=g6 a1 a2 d X12 Y12 x3 y3
 have e7:(y1*(Y23*i4)+x1*(X23*i3))*(A3*A4)=Y23*A3*y1+X23*A4*x1:=g7 a3 a4 X23 Y23 x1 y1
 have e8:(1-d*x1*(X23*i3)*y1*(Y23*i4))*(A3*A4)=A3*A4-d*x1*y1*X23*Y23:=g8 a3 a4 d X23 Y23 x1 y1
 clear a1 a2 a3 a4 z1 z2 z3 z4
 congr 1
 ·refine frac_eq n1 n3 (zu hz (g9 ?_))
  rw[e1,e2,e3,e4];exact hx
 ·refine frac_eq n2 n4 (zu hz (g9 ?_))
  rw[e5,e6,e7,e8];exact hy
abbrev Pt:=Fp × Fp
theorem oC_on:OnC oC:=by
 unfold OnC oC
 generalize dF=d
 grind
theorem kD {p:Pt} (h:OnC p):OnC (negC p):=by
 unfold OnC negC at*
 simp only
 generalize dF=d at*
 grind
theorem finv_one:finv 1=1:=by
 have h:=eY oO
 generalize finv 1=x at*
 grind
section
variable {R:Type} [Lean.Grind.CommRing R]
theorem oz1 (d x y:R):1+d*x*0*y*1=1:=by grind
theorem oz2 (d x y:R):1-d*x*0*y*1=1:=by grind
theorem oz3 (x y:R):(x*1+y*0)*1=x:=by grind
end
theorem addC_oC (p:Pt):gG p oC=p:=by
 obtain⟨x,y⟩:=p
 unfold gG oC
 simp only
 rw[oz1 dF x y,oz2 dF x y,finv_one,oz3,oz3]
theorem oC_addC (p:Pt):gG oC p=p:=by rw[Aq,addC_oC]
theorem zo {p:Pt} (h:OnC p):gG p (negC p)=oC:=by
 have hd:=eY (den_pos h h)
 obtain⟨x,y⟩:=p
 unfold gG negC oC
 unfold OnC at h
 simp only at*
 have e:(1:Fp)-dF*x* -x*y*y=1+dF*x*x*y*y:=by generalize dF=d;grind
 rw[e]
 generalize finv (1+dF*x*x*y*y)=i at*
 have e2:y*y+x* -x=1+dF*x*x*y*y:=by generalize dF=d at*;grind
 rw[e2,hd]
 congr 1
 generalize finv (1+dF*x* -x*y*y)=k
 grind
theorem add_left {p q r:Pt} (hp:OnC p) (hq:OnC q) (hr:OnC r) (h:gG p q=gG p r):q=r:=by
 have e:gG (negC p) (gG p q)=gG (negC p) (gG p r):=by rw[h]
 rw[←tO (kD hp) hp hq,←tO (kD hp) hp hr,Aq (negC p) p,zo hp,oC_addC,oC_addC] at e
 exact e
noncomputable def nC (p:Pt):Nat→Pt
 | 0=>oC
 | n+1=>gG (nC p n) p
theorem iN {p:Pt} (hp:OnC p):∀n,OnC (nC p n)
 | 0=>oC_on
 | n+1=>mE (iN hp n) hp
theorem wm {p:Pt} (hp:OnC p) (a:Nat):∀b,nC p (a+b)=gG (nC p a) (nC p b)
 | 0=>by rw[Nat.add_zero,nC,addC_oC]
 | b+1=>by
  rw[←Nat.add_assoc]
  show gG (nC p (a+b)) p=gG (nC p a) (gG (nC p b) p)
  rw[wm hp a b,tO (iN hp a) (iN hp b) hp]
theorem nC_one (p:Pt):nC p 1=p:=by rw[nC,nC,oC_addC]
theorem nC_two {p:Pt} (hp:OnC p):nC p 2=gG p p:=by rw[nC,nC_one]
def IsF (e:E5) (x:Fp):Prop:=∃n,Is e n∧toF n=x
theorem Is.f {e:E5} {n:Int} (h:Is e n):IsF e (toF n):=⟨n,h,rfl⟩
theorem IsF.eq {e:E5} {x y:Fp} (h:IsF e x) (hy:x=y):IsF e y:=hy ▸ h
theorem IsF.plus {e f:E5} {x y:Fp} (he:IsF e x) (hf:IsF f y):IsF (mU e f) (x+y):=by
 obtain⟨n,h,rfl⟩:=he
 obtain⟨m,k,rfl⟩:=hf
 exact⟨n+m,h.plus k,toF_add n m⟩
theorem IsF.minus {e f:E5} {x y:Fp} (he:IsF e x) (hf:IsF f y):IsF (jE e f) (x-y):=by
 obtain⟨n,h,rfl⟩:=he
 obtain⟨m,k,rfl⟩:=hf
 exact⟨n-m,h.minus k,toF_sub n m⟩
theorem IsF.times {e f:E5} {x y:Fp} (he:IsF e x) (hf:IsF f y):IsF (bJ e f) (x*y):=by
 obtain⟨n,h,rfl⟩:=he
 obtain⟨m,k,rfl⟩:=hf
 exact⟨n*m,h.times k,kU n m⟩
theorem rP:IsF zeroE 0:=⟨0,zeroE_is,q9⟩
theorem vY:IsF oneE 1:=⟨1,oneE_is,toF_one⟩
theorem Aw (x:Fp) (n:Int) (h:toF n=x) (k:Nat):toF (n^k)=toF ((x.val:Int)^k):=by
 rw[iH,l5 n,l5 (x.val:Int)]
 have e:n%pP=(x.val:Int)%pP:=by rw[←iH,jT,h]
 rw[e]
theorem IsF.inv {e:E5} {x:Fp} (he:IsF e x):IsF (invF e) (finv x):=by
 obtain⟨n,h,hx⟩:=he
 refine⟨n^(pN-2),inv_is h,?_⟩
 unfold finv
 generalize pN-2=k
 exact Aw x n hx k
theorem IsF.bytes {e:E5} {x:Fp} (he:IsF e x):BOk (gF e)∧VB (gF e)=(x.val:Int):=by
 obtain⟨n,h,rfl⟩:=he
 refine⟨h.bytes.1,?_⟩
 rw[h.bytes.2,jS]
theorem IsF.odd {e:E5} {x:Fp} (he:IsF e x):oddF e=true↔x.val%2=1:=by
 obtain⟨n,h,rfl⟩:=he
 rw[oddF_iff h,←jS]
 omega
theorem IsF.is {e f:E5} {x y:Fp} (he:IsF e x) (hf:IsF f y):isF e f=true↔x=y:=by
 obtain⟨n,h,rfl⟩:=he
 obtain⟨m,k,rfl⟩:=hf
 rw[isF_iff h k,iH]
theorem IsF.lit {e:E5} (h:Lim e) {x:Fp} (hx:toF (V e)=x):IsF e x:=⟨V e,Is.lit e h,hx⟩
def Rep (P:P20) (p:Pt):Prop:=∃z:Fp,z≠0∧IsF P.x (p.1*z)∧IsF P.y (p.2*z)∧IsF P.z z∧IsF P.t (p.1*p.2*z)
theorem twiceE_f:IsF twiceE (dF+dF):=IsF.lit (by unfold Lim;decide) (by decide+kernel)
theorem curveE_f:IsF curveE dF:=IsF.lit (by unfold Lim;decide) (by decide+kernel)
theorem Rep.origin:Rep mD oC:=by
 refine⟨1,oO,?_,?_,vY,?_⟩
 ·exact rP.eq (by decide+kernel)
 ·exact vY.eq (by decide+kernel)
 ·exact rP.eq (by decide+kernel)
section
variable {R:Type} [Lean.Grind.CommRing R]
theorem pa1 (d x1 y1 x2 y2 z w i j:R) (hi:(1+d*x1*x2*y1*y2)*i=1) (hj:(1-d*x1*x2*y1*y2)*j=1) (e f g h:R)
  (he:e=(y1*z+x1*z)*(y2*w+x2*w)-(y1*z-x1*z)*(y2*w-x2*w)) (hf:f=(z*w+z*w)-x1*y1*z*(d+d)*(x2*y2*w)) (hg:g=(z*w+z*w)+x1*y1*z*(d+d)*(x2*y2*w))
  (hh:h=(y1*z+x1*z)*(y2*w+x2*w)+(y1*z-x1*z)*(y2*w-x2*w)):
  e*f=(x1*y2+y1*x2)*i*(f*g)∧g*h=(y1*y2+x1*x2)*j*(f*g)∧e*h=(x1*y2+y1*x2)*i*((y1*y2+x1*x2)*j)*(f*g):=by
 have e1:e=2*z*w*(x1*y2+y1*x2):=by grind
 have h1:h=2*z*w*(y1*y2+x1*x2):=by grind
 have f1:f=2*z*w*(1-d*x1*x2*y1*y2):=by grind
 have g1:g=2*z*w*(1+d*x1*x2*y1*y2):=by grind
 clear he hf hg hh
 generalize (1-d*x1*x2*y1*y2)=D at*
 generalize (1+d*x1*x2*y1*y2)=E at*
 generalize (x1*y2+y1*x2)=X at*
 generalize (y1*y2+x1*x2)=Y at*
 refine⟨?_,?_,?_⟩<;>grind
theorem pa2 (d x1 y1 x2 y2 z w f g:R) (hf:f=(z*w+z*w)-x1*y1*z*(d+d)*(x2*y2*w)) (hg:g=(z*w+z*w)+x1*y1*z*(d+d)*(x2*y2*w)):
  f*g=2*z*w*(1-d*x1*x2*y1*y2)*(2*z*w*(1+d*x1*x2*y1*y2)):=by grind
theorem pd1 (d x y z i j:R) (hc:y*y-x*x=1+d*(x*x)*(y*y)) (hi:(1+d*x*x*y*y)*i=1) (hj:(1-d*x*x*y*y)*j=1) (e f g h:R)
  (he:e=(x*z*(x*z)+y*z*(y*z))-(x*z+y*z)*(x*z+y*z)) (hg:g=x*z*(x*z)-y*z*(y*z)) (hf:f=(z*z+z*z)+(x*z*(x*z)-y*z*(y*z)))
  (hh:h=x*z*(x*z)+y*z*(y*z)):
  e*f=(x*y+y*x)*i*(f*g)∧g*h=(y*y+x*x)*j*(f*g)∧e*h=(x*y+y*x)*i*((y*y+x*x)*j)*(f*g)∧f*g=z*z*(1-d*x*x*y*y)*(-1*(z*z*(1+d*x*x*y*y))):=by
 have e1:e= -1*(z*z)*(x*y+y*x):=by grind
 have h1:h=z*z*(y*y+x*x):=by grind
 have f1:f=z*z*(1-d*x*x*y*y):=by grind
 have g1:g= -1*(z*z*(1+d*x*x*y*y)):=by grind
 clear he hf hg hh hc
 generalize (1-d*x*x*y*y)=D at*
 generalize (1+d*x*x*y*y)=E at*
 generalize (x*y+y*x)=X at*
 generalize (y*y+x*x)=Y at*
 refine⟨?_,?_,?_,?_⟩<;>grind
end
theorem Rep.plus {P Q:P20} {p q:Pt} (hp:Rep P p) (hq:Rep Q q) (op:OnC p) (oq:OnC q):Rep (pQ P Q) (gG p q):=by
 obtain⟨z,hz,hx,hy,hzz,ht⟩:=hp
 obtain⟨w,hw,kx,ky,kz,kt⟩:=hq
 have dp:=den_pos op oq
 have dn:=nT op oq
 have ip:=eY dp
 have jp:=eY dn
 have hA:IsF (plusA P Q) ((p.2*z-p.1*z)*(q.2*w-q.1*w)):=(hy.minus hx).times (ky.minus kx)
 have hB:IsF (plusB P Q) ((p.2*z+p.1*z)*(q.2*w+q.1*w)):=(hy.plus hx).times (ky.plus kx)
 have hC:IsF (plusC P Q) (p.1*p.2*z*(dF+dF)*(q.1*q.2*w)):=(ht.times twiceE_f).times kt
 have hD:IsF (plusD P Q) (z*w+z*w):=(hzz.times kz).plus (hzz.times kz)
 obtain⟨e1,e2,e3⟩:=pa1 dF p.1 p.2 q.1 q.2 z w (finv (1+dF*p.1*q.1*p.2*q.2)) (finv (1-dF*p.1*q.1*p.2*q.2)) ip jp _ _ _ _ rfl rfl rfl rfl
 have hn:=pa2 dF p.1 p.2 q.1 q.2 z w _ _ rfl rfl
 refine⟨_,?_,((hB.minus hA).times (hD.minus hC)).eq e1,((hD.plus hC).times (hB.plus hA)).eq e2,(hD.minus hC).times (hD.plus hC),((hB.minus hA).times (hB.plus hA)).eq e3⟩
 rw[hn]
 exact dQ (dQ (dQ (dQ two_ne hz) hw) dn) (dQ (dQ (dQ two_ne hz) hw) dp)
theorem Rep.dbl {P:P20} {p:Pt} (hp:Rep P p) (op:OnC p):Rep (dblP P) (gG p p):=by
 obtain⟨z,hz,hx,hy,hzz,ht⟩:=hp
 have dp:=den_pos op op
 have dn:=nT op op
 have ip:=eY dp
 have jp:=eY dn
 have hA:IsF (dblA P) (p.1*z*(p.1*z)):=hx.times hx
 have hB:IsF (dblB P) (p.2*z*(p.2*z)):=hy.times hy
 have hC:IsF (dblC P) (z*z+z*z):=(hzz.times hzz).plus (hzz.times hzz)
 have hS:IsF (dblS P) (p.1*z+p.2*z):=hx.plus hy
 have hH:IsF (dblH P) (p.1*z*(p.1*z)+p.2*z*(p.2*z)):=hA.plus hB
 have hE:IsF (dblE P) ((p.1*z*(p.1*z)+p.2*z*(p.2*z))-(p.1*z+p.2*z)*(p.1*z+p.2*z)):=hH.minus (hS.times hS)
 have hG:IsF (dblG P) (p.1*z*(p.1*z)-p.2*z*(p.2*z)):=hA.minus hB
 have hF:IsF (dblF P) ((z*z+z*z)+(p.1*z*(p.1*z)-p.2*z*(p.2*z))):=hC.plus hG
 obtain⟨e1,e2,e3,hn⟩:=pd1 dF p.1 p.2 z (finv (1+dF*p.1*p.1*p.2*p.2)) (finv (1-dF*p.1*p.1*p.2*p.2)) op ip jp _ _ _ _ rfl rfl rfl rfl
 refine⟨_,?_,(hE.times hF).eq e1,(hG.times hH).eq e2,hF.times hG,(hE.times hH).eq e3⟩
 rw[hn]
 exact dQ (dQ (dQ hz hz) dn) (dQ (by decide+kernel) (dQ (dQ hz hz) dp))
theorem Rep.neg {P:P20} {p:Pt} (hp:Rep P p):Rep (negP P) (negC p):=by
 obtain⟨z,hz,hx,hy,hzz,ht⟩:=hp
 refine⟨z,hz,(rP.minus hx).eq ?_,hy,hzz,(rP.minus ht).eq ?_⟩
 ·unfold negC;simp only;grind
 ·unfold negC;simp only;grind
theorem Rep.clr {P:P20} {p:Pt} (hp:Rep P p) (op:OnC p):Rep (clrP P) (nC p 8):=by
 have h2:=hp.dbl op
 have o2:=mE op op
 have h4:=h2.dbl o2
 have o4:=mE o2 o2
 have h8:=h4.dbl o4
 have e:nC p 8=gG (gG (gG p p) (gG p p)) (gG (gG p p) (gG p p)):=by
  rw[show 8=(2+2)+(2+2) from rfl,wm op,wm op,nC_two op]
 rw[e]
 exact h8
theorem VB_hi {b:B32} (h:BOk b):∃r:Int,VB b=r+452312848583266388373324160190187140051835877600158453279131187530910662656*b.b31∧0≤r∧r<452312848583266388373324160190187140051835877600158453279131187530910662656:=by
 have hb:∀i,Byte (b.at i):=h
 have k0:0≤b.b0∧b.b0<256:=hb 0
 have k1:0≤b.b1∧b.b1<256:=hb 1
 have k2:0≤b.b2∧b.b2<256:=hb 2
 have k3:0≤b.b3∧b.b3<256:=hb 3
 have k4:0≤b.b4∧b.b4<256:=hb 4
 have k5:0≤b.b5∧b.b5<256:=hb 5
 have k6:0≤b.b6∧b.b6<256:=hb 6
 have k7:0≤b.b7∧b.b7<256:=hb 7
 have k8:0≤b.b8∧b.b8<256:=hb 8
 have k9:0≤b.b9∧b.b9<256:=hb 9
 have k10:0≤b.b10∧b.b10<256:=hb 10
 have k11:0≤b.b11∧b.b11<256:=hb 11
 have k12:0≤b.b12∧b.b12<256:=hb 12
 have k13:0≤b.b13∧b.b13<256:=hb 13
 have k14:0≤b.b14∧b.b14<256:=hb 14
 have k15:0≤b.b15∧b.b15<256:=hb 15
 have k16:0≤b.b16∧b.b16<256:=hb 16
 have k17:0≤b.b17∧b.b17<256:=hb 17
 have k18:0≤b.b18∧b.b18<256:=hb 18
 have k19:0≤b.b19∧b.b19<256:=hb 19
 have k20:0≤b.b20∧b.b20<256:=hb 20
 have k21:0≤b.b21∧b.b21<256:=hb 21
 have k22:0≤b.b22∧b.b22<256:=hb 22
 have k23:0≤b.b23∧b.b23<256:=hb 23
 have k24:0≤b.b24∧b.b24<256:=hb 24
 have k25:0≤b.b25∧b.b25<256:=hb 25
 have k26:0≤b.b26∧b.b26<256:=hb 26
 have k27:0≤b.b27∧b.b27<256:=hb 27
 have k28:0≤b.b28∧b.b28<256:=hb 28
 have k29:0≤b.b29∧b.b29<256:=hb 29
 have k30:0≤b.b30∧b.b30<256:=hb 30
 refine⟨VB b-452312848583266388373324160190187140051835877600158453279131187530910662656*b.b31,by omega,?_,?_⟩<;>unfold VB<;>omega
theorem wM (b:B32) (x:Int):VB (set31 b x)=VB b+452312848583266388373324160190187140051835877600158453279131187530910662656*(x-b.b31):=by
 unfold VB set31
 simp only
 omega
theorem yj {b:B32} {x:Int} (h:BOk b) (hx:Byte x):BOk (set31 b x):=by
 intro i
 have h':=h i
 unfold B32.at set31 at*
 split<;>first | exact hx | exact h'
theorem pY {b:B32} (h:BOk b):0≤b.b31∧b.b31<256:=h 31
theorem wraps_u8 (n:Int) (h₀:0≤n) (h₁:n<2^8):IntKind.u8.wrap n=n:=by rw[IntKind.wrap_u8];omega
theorem and7 (x:Int) (h0:0≤x) (h1:x<256):bits .and .u8 x 127=x%128:=
 bits_mask .u8 8 (by decide) wraps_u8 7 (by decide) x h0 h1
theorem or7 (x:Int) (h0:0≤x) (h1:x<128):bits .or .u8 x 128=x+128:=by
 have h:bits .or .u8 128 x=128+x:=bits_join .u8 8 (by decide) wraps_u8 7 128 x (by decide) (by decide) (by decide) h0 h1 (by omega)
 have c:bits .or .u8 x 128=bits .or .u8 128 x:=by
  unfold bits
  simp only
  rw[BitVec.or_comm]
 rw[c,h,Int.add_comm]
theorem yh {b:B32} (h:BOk b):gY b=true↔128≤b.b31:=by
 have:=pY h
 unfold gY
 rw[Int.fdiv_eq_ediv_of_nonneg _ (by decide),beq_iff_eq]
 have e:(2:Int)^7=128:=by decide
 rw[e]
 omega
theorem mX {b:B32} (h:BOk b):BOk (bH b)∧VB (bH b)=VB b-(if gY b then 57896044618658097711785492504343953926634992332820282019728792003956564819968 else 0):=by
 have ht:=pY h
 have e:=and7 _ ht.1 ht.2
 have hs:=yh h
 unfold bH
 rw[e]
 refine⟨yj h ⟨by omega,by omega⟩,?_⟩
 rw[wM]
 cases hb:gY b with
 | true=>
  have:=hs.1 hb
  simp only[if_true]
  omega
 | false=>
  have:¬128≤b.b31:=fun k=>by rw[hs.2 k] at hb;cases hb
  simp only[Bool.false_eq_true,if_false]
  omega
def encV (p:Pt):Int:=(p.2.val:Int)+57896044618658097711785492504343953926634992332820282019728792003956564819968*((p.1.val%2:Nat):Int)
theorem Fp_lt (x:Fp):(x.val:Int)<pP:=by
 have:=x.isLt
 rw[sS]
 omega
theorem pP_lit:pP=57896044618658097711785492504343953926634992332820282019728792003956564819949:=rfl
theorem enc_val {P:P20} {p:Pt} (h:Rep P p):BOk (kS P)∧VB (kS P)=encV p:=by
 obtain⟨z,hz,hx,hy,hzz,ht⟩:=h
 have hi:=eY hz
 have ex:p.1*z*finv z=p.1:=by generalize finv z=i at*;grind
 have ey:p.2*z*finv z=p.2:=by generalize finv z=i at*;grind
 have kx:=((hx.times hzz.inv).eq ex).odd
 obtain⟨b0,b1⟩:=((hy.times hzz.inv).eq ey).bytes
 obtain⟨r,r1,r2,r3⟩:=VB_hi b0
 have hl:=Fp_lt p.2
 have hpl:=pP_lit
 have ht:=pY b0
 have hlt:(pyB P).b31<128:=by unfold pyB;omega
 have hge:0≤(pyB P).b31:=ht.1
 unfold kS encV
 cases hb:pxO P with
 | true=>
  have hp:=kx.1 hb
  simp only
  rw[or7 _ hge hlt]
  refine⟨yj b0 ⟨by omega,by omega⟩,?_⟩
  rw[wM,hp]
  unfold pyB
  rw[b1]
  omega
 | false=>
  have hp:p.1.val%2=0:=by
   have:¬p.1.val%2=1:=fun k=>by
    have e:=kx.2 k
    unfold pxO at hb
    rw[hb] at e
    cases e
   omega
  simp only
  refine⟨b0,?_⟩
  rw[hp]
  unfold pyB
  rw[b1]
  omega
theorem wI {x y:Fp} (h:x+y=0) (hx:x≠0):x.val+y.val=pN:=by
 have e:(x+y).val=0:=by rw[h];rfl
 rw[Fin.val_add] at e
 have h1:=x.isLt
 have h2:=y.isLt
 have h3:x.val≠0:=fun k=>hx (Fin.ext k)
 rcases Nat.lt_or_ge (x.val+y.val) pN with h4 | h4
 ·rw[Nat.mod_eq_of_lt h4] at e
  omega
 ·rw[Nat.mod_eq_sub_mod h4,Nat.mod_eq_of_lt (by omega)] at e
  omega
theorem pN_odd:pN%2=1:=by decide
theorem dd0 {R:Type} [Lean.Grind.CommRing R] (d:R) (h:1+d*(0*0)=0):(1:R)=0:=by grind
theorem dd_ne (y:Fp):1+dF*(y*y)≠0:=fun h=>by
 have hj:=jF_sq
 have e:dF*(y*y)=jF*jF:=by
  rw[hj]
  generalize dF=d at*
  generalize jF=j at*
  grind
 have h0:=d_nonsq e
 rw[h0] at h
 exact oO (dd0 dF h)
theorem sq_eq {x y:Fp} (h:x*x=y*y):x=y∨x+y=0:=by
 have e:(x-y)*(x+y)=0:=by grind
 rcases lJ e with h | h
 ·left;grind
 ·right;exact h
theorem encV_inj {p q:Pt} (hp:OnC p) (hq:OnC q) (h:encV p=encV q):p=q:=by
 obtain⟨x,y⟩:=p
 obtain⟨x',y'⟩:=q
 unfold encV at h
 simp only at h
 have h1:=Fp_lt y
 have h2:=Fp_lt y'
 have hl:=pP_lit
 have h3:x.val%2<2:=Nat.mod_lt _ (by decide)
 have h4:x'.val%2<2:=Nat.mod_lt _ (by decide)
 have hpar:x.val%2=x'.val%2:=by omega
 have hy:y=y':=Fin.ext (by omega)
 subst hy
 unfold OnC at hp hq
 simp only at hp hq
 have hz:(x*x-x'*x')*(1+dF*(y*y))=0:=by generalize dF=d at*;grind
 have hs:x*x=x'*x':=by
  rcases lJ hz with k | k
  ·grind
  ·exact absurd k (dd_ne y)
 rcases sq_eq hs with k | k
 ·rw[k]
 ·by_cases h0:x=0
  ·have:x'=0:=by rw[h0] at k;grind
   rw[h0,this]
  ·exfalso
   have:=wI k h0
   have:=pN_odd
   omega
theorem ratioF {u v:E5} {x y:Fp} (hu:IsF u x) (hv:IsF v y):∃z:Fp,IsF (ratio2 u v) z∧z.val%2=0∧(jY u v=true↔y*(z*z)=x)∧(y≠0→(∃r,y*(r*r)=x)→jY u v=true):=by
 obtain⟨n,h1,rfl⟩:=hu
 obtain⟨m,h2,rfl⟩:=hv
 obtain⟨z,h3,h4,h5,h6⟩:=ratio_is h1 h2
 refine⟨toF z,h3.f,?_,?_,?_⟩
 ·have:=jS z;omega
 ·rw[h5,←kU,←kU,iH]
 ·rintro hy ⟨r,hr⟩
  refine h6 (fun k=>hy (by rw[←q9,iH];exact k)) ⟨(r.val:Int),?_⟩
  rw[←iH,kU,kU,jT,hr]
theorem canL_iff {b:B32} (h:BOk b):eqB (gF (ofF (bH b))) (bH b)=true↔VB (bH b)<pP:=canB_iff (mX h).1
theorem decOk_iff (b:B32):dG b=true↔eqB (gF (ofF (bH b))) (bH b)=true∧jY (decU b) (decV b)=true∧(gY b=true→isF (decX b) zeroE=false):=by
 unfold dG
 cases eqB (gF (ofF (bH b))) (bH b)<;>cases jY (decU b) (decV b)<;>cases gY b<;>cases isF (decX b) zeroE<;>simp
theorem Ar {b:B32} (h:BOk b):0≤VB b:=by
 obtain⟨r,r1,r2,r3⟩:=VB_hi h
 have:=pY h
 omega
section
variable {R:Type} [Lean.Grind.CommRing R]
theorem on1 (d x y:R) (h:(y*y*d+1)*(x*x)=y*y-1):y*y-x*x=1+d*(x*x)*(y*y):=by grind
theorem on2 (d x y:R) (h:y*y-x*x=1+d*(x*x)*(y*y)):(y*y*d+1)*(x*x)=y*y-1:=by grind
end
theorem decYUV {b:B32} (hb:BOk b):IsF (decY b) (toF (VB (bH b)))∧IsF (decU b) (toF (VB (bH b))*toF (VB (bH b))-1)∧IsF (decV b) (toF (VB (bH b))*toF (VB (bH b))*dF+1):=by
 have hY:IsF (decY b) (toF (VB (bH b))):=(Is.of (mX hb).1).f
 exact⟨hY,(hY.times hY).minus vY,((hY.times hY).times curveE_f).plus vY⟩
theorem dec_main {b:B32} (hb:BOk b) (h:dG b=true):∃p,OnC p∧VB b=encV p∧Rep (decP b) p:=by
 obtain⟨hY,hU,hV⟩:=decYUV hb
 obtain⟨z,hz,hpar,hok,-⟩:=ratioF hU hV
 obtain⟨h1,h2,h3⟩:=(decOk_iff b).1 h
 have hc:=(canL_iff hb).1 h1
 have hl:=(mX hb)
 have hyv:((toF (VB (bH b))).val:Int)=VB (bH b):=by rw[jS,Int.emod_eq_of_lt (Ar hl.1) hc]
 have hsq:=hok.1 h2
 have hon:=on1 dF z (toF (VB (bH b))) hsq
 unfold decP
 rw[h]
 generalize toF (VB (bH b))=y at*
 unfold decX'
 cases hs:gY b with
 | true=>
  rw[hs] at hl
  simp only[if_true] at hl
  have hne:z≠0:=fun k=>by
   have:=(hz.is rP).2 k
   have h4:=h3 hs
   unfold decX at h4
   rw[this] at h4
   cases h4
  refine⟨(0-z,y),?_,?_,1,oO,?_,?_,vY,?_⟩
  ·unfold OnC
   simp only
   generalize dF=d at*
   grind
  ·have hs0:z+(0-z)=0:=by grind
   have:=wI hs0 hne
   have:=pN_odd
   unfold encV
   simp only
   rw[show(0-z).val%2=1 from by omega]
   omega
  ·exact(rP.minus hz).eq (by grind)
  ·exact hY.eq (by grind)
  ·exact((rP.minus hz).times hY).eq (by grind)
 | false=>
  rw[hs] at hl
  simp only[Bool.false_eq_true,if_false] at hl
  refine⟨(z,y),hon,?_,1,oO,?_,?_,vY,?_⟩
  ·unfold encV
   simp only
   rw[hpar]
   omega
  ·exact hz.eq (by grind)
  ·exact hY.eq (by grind)
  ·exact(hz.times hY).eq (by grind)
theorem dec_of {b:B32} {p:Pt} (hb:BOk b) (hp:OnC p) (hv:VB b=encV p):dG b=true∧Rep (decP b) p:=by
 have hok:dG b=true:=by
  obtain⟨hY,hU,hV⟩:=decYUV hb
  obtain⟨z,hz,hpar,hok,hex⟩:=ratioF hU hV
  have hl:=(mX hb)
  have hsg:=yh hb
  have hlt:=Fp_lt p.2
  have hpl:=pP_lit
  obtain⟨r,r1,r2,r3⟩:=VB_hi hb
  have htb:=pY hb
  have h3:p.1.val%2<2:=Nat.mod_lt _ (by decide)
  have hy:VB (bH b)=(p.2.val:Int)∧(gY b=true→p.1.val%2=1):=by
   unfold encV at hv
   cases hs:gY b with
   | true=>
    have:=hsg.1 hs
    rw[hs] at hl
    simp only[if_true] at hl
    exact⟨by omega,fun _=>by omega⟩
   | false=>
    have:¬128≤b.b31:=fun k=>by rw[hsg.2 k] at hs;cases hs
    rw[hs] at hl
    simp only[Bool.false_eq_true,if_false] at hl
    exact⟨by omega,fun k=>by cases k⟩
  have hyF:toF (VB (bH b))=p.2:=by rw[hy.1,jT]
  rw[hyF] at hok hex
  have hne:p.2*p.2*dF+1≠0:=fun k=>dd_ne p.2 (by rw[←k];generalize dF=d;grind)
  have hsq:=on2 dF p.1 p.2 hp
  have h2:=hex hne ⟨p.1,hsq⟩
  refine(decOk_iff b).2 ⟨(canL_iff hb).2 (by omega),h2,fun hs=> ?_⟩
  have hone:=hy.2 hs
  cases hi:isF (decX b) zeroE with
  | false=>rfl
  | true=>
   exfalso
   have hz0:z=0:=(hz.is rP).1 hi
   have e1:=hok.1 h2
   rw[hz0,←hsq] at e1
   have e2:(p.2*p.2*dF+1)*(p.1*p.1)=0:=by rw[←e1];generalize dF=d;grind
   rcases lJ e2 with k | k
   ·exact hne k
   ·have:p.1=0:=by
     rcases lJ k with k | k<;>exact k
    rw[this] at hone
    revert hone
    decide
 refine⟨hok,?_⟩
 obtain⟨q,q1,q2,q3⟩:=dec_main hb hok
 have:q=p:=encV_inj q1 hp (by rw[←q2,hv])
 rw[←this]
 exact q3
theorem rowT_tab (P:P20):∀j,jl P (dO P) j=dO P j
 | 0=>by rw[jl,dO]
 | 1=>by rw[jl,dO]
 | j+2=>by rw[jl]
theorem tab_rep {P:P20} {p:Pt} (h:Rep P p) (hp:OnC p):∀j,Rep (dO P j) (nC p j)
 | 0=>by rw[dO,nC];exact Rep.origin
 | 1=>by rw[dO,nC_one];exact h
 | j+2=>by
  rw[dO]
  exact(tab_rep h hp (j+1)).plus h (iN hp _) hp
theorem row_rep {P:P20} {p:Pt} (h:Rep P p) (hp:OnC p) (j:Nat):Rep (jl P (dO P) j) (nC p j):=by
 rw[rowT_tab];exact tab_rep h hp j
theorem dbl_rep {Q:P20} {p:Pt} (hp:OnC p) {m:Nat} (h:Rep Q (nC p m)):Rep (dblP Q) (nC p (m+m)):=by
 rw[wm hp];exact h.dbl (iN hp m)
theorem stepD_rep {P Q:P20} {p:Pt} (h:Rep P p) (hp:OnC p) {m:Nat} (hq:Rep Q (nC p m)) (c:Int):Rep (mM (jl P (dO P)) Q c) (nC p (16*m+c.toNat)):=by
 unfold mM
 rw[show 16*m=((m+m)+(m+m))+((m+m)+(m+m))+(((m+m)+(m+m))+((m+m)+(m+m))) from by omega,wm hp _ c.toNat]
 exact(dbl_rep hp (dbl_rep hp (dbl_rep hp (dbl_rep hp hq)))).plus (row_rep h hp _) (iN hp _) (iN hp _)
theorem and4 (x:Int) (h0:0≤x) (h1:x<256):bits .and .u8 x 15=x%16:=
 bits_mask .u8 8 (by decide) wraps_u8 4 (by decide) x h0 h1
theorem nib_val {b:Int} (hb:Byte b):hiN b=b/16∧loN b=b%16:=by
 obtain⟨h0,h1⟩:=hb
 refine⟨Int.fdiv_eq_ediv_of_nonneg _ (by decide),and4 b h0 h1⟩
theorem nib_of {n:B32} (hn:BOk n):Nib n:=by
 intro k _
 obtain⟨h0,h1⟩:=hn k
 obtain⟨e1,e2⟩:=nib_val (hn k)
 rw[e1,e2]
 omega
theorem stepN_rep {P Q:P20} {p:Pt} (h:Rep P p) (hp:OnC p) {m:Nat} (hq:Rep Q (nC p m)) {b:Int} (hb:Byte b):Rep (stepN (jl P (dO P)) Q b) (nC p (256*m+b.toNat)):=by
 obtain⟨e1,e2⟩:=nib_val hb
 have h1:=stepD_rep h hp (stepD_rep h hp hq (hiN b)) (loN b)
 rw[e1,e2] at h1
 unfold stepN
 rw[e1,e2]
 obtain⟨h0,h2⟩:=hb
 rw[show 256*m+b.toNat=16*(16*m+(b/16).toNat)+(b%16).toNat from by omega]
 exact h1
def lowV (n:B32):Nat→Nat
 | 0=>0
 | k+1=>lowV n k+256^k*(n.at k).toNat
theorem oftenR_rep {P:P20} {p:Pt} (h:Rep P p) (hp:OnC p) {n:B32} (hn:BOk n):∀(k:Nat) (Q:P20) (m:Nat),Rep Q (nC p m)→Rep (uJ (jl P (dO P)) n k Q) (nC p (m*256^k+lowV n k))
 | 0,Q,m,hq=>by
  rw[uJ,lowV,Nat.pow_zero,Nat.mul_one,Nat.add_zero];exact hq
 | k+1,Q,m,hq=>by
  rw[uJ,lowV]
  have h1:=oftenR_rep h hp hn k _ _ (stepN_rep h hp hq (hn k))
  have e:(256*m+(n.at k).toNat)*256^k+lowV n k=m*256^(k+1)+(lowV n k+256^k*(n.at k).toNat):=by
   rw[Nat.pow_succ]
   generalize 256^k=t
   generalize (n.at k).toNat=c
   grind
  rw[←e]
  exact h1
def NV (n:B32):Nat:=(VB n).toNat
theorem uq {n:B32} (h:BOk n):(NV n:Int)=VB n:=Int.toNat_of_nonneg (Ar h)
theorem lowV_eq {n:B32} (h:BOk n):lowV n 32=NV n:=by
 have hb:∀i,Byte (n.at i):=h
 have e:((lowV n 32:Nat):Int)=VB n:=by
  simp only[lowV,B32.at,Int.natCast_add,Int.natCast_mul]
  have c:∀i,(((n.at i).toNat:Nat):Int)=n.at i:=fun i=>Int.toNat_of_nonneg (hb i).1
  have c0:((n.b0.toNat:Nat):Int)=n.b0:=c 0
  have c1:((n.b1.toNat:Nat):Int)=n.b1:=c 1
  have c2:((n.b2.toNat:Nat):Int)=n.b2:=c 2
  have c3:((n.b3.toNat:Nat):Int)=n.b3:=c 3
  have c4:((n.b4.toNat:Nat):Int)=n.b4:=c 4
  have c5:((n.b5.toNat:Nat):Int)=n.b5:=c 5
  have c6:((n.b6.toNat:Nat):Int)=n.b6:=c 6
  have c7:((n.b7.toNat:Nat):Int)=n.b7:=c 7
  have c8:((n.b8.toNat:Nat):Int)=n.b8:=c 8
  have c9:((n.b9.toNat:Nat):Int)=n.b9:=c 9
  have c10:((n.b10.toNat:Nat):Int)=n.b10:=c 10
  have c11:((n.b11.toNat:Nat):Int)=n.b11:=c 11
  have c12:((n.b12.toNat:Nat):Int)=n.b12:=c 12
  have c13:((n.b13.toNat:Nat):Int)=n.b13:=c 13
  have c14:((n.b14.toNat:Nat):Int)=n.b14:=c 14
  have c15:((n.b15.toNat:Nat):Int)=n.b15:=c 15
  have c16:((n.b16.toNat:Nat):Int)=n.b16:=c 16
  have c17:((n.b17.toNat:Nat):Int)=n.b17:=c 17
  have c18:((n.b18.toNat:Nat):Int)=n.b18:=c 18
  have c19:((n.b19.toNat:Nat):Int)=n.b19:=c 19
  have c20:((n.b20.toNat:Nat):Int)=n.b20:=c 20
  have c21:((n.b21.toNat:Nat):Int)=n.b21:=c 21
  have c22:((n.b22.toNat:Nat):Int)=n.b22:=c 22
  have c23:((n.b23.toNat:Nat):Int)=n.b23:=c 23
  have c24:((n.b24.toNat:Nat):Int)=n.b24:=c 24
  have c25:((n.b25.toNat:Nat):Int)=n.b25:=c 25
  have c26:((n.b26.toNat:Nat):Int)=n.b26:=c 26
  have c27:((n.b27.toNat:Nat):Int)=n.b27:=c 27
  have c28:((n.b28.toNat:Nat):Int)=n.b28:=c 28
  have c29:((n.b29.toNat:Nat):Int)=n.b29:=c 29
  have c30:((n.b30.toNat:Nat):Int)=n.b30:=c 30
  have c31:((n.b31.toNat:Nat):Int)=n.b31:=c 31
  rw[c0,c1,c2,c3,c4,c5,c6,c7,c8,c9,c10,c11,c12,c13,c14,c15,c16,c17,c18,c19,c20,c21,c22,c23,c24,c25,c26,c27,c28,c29,c30,c31]
  unfold VB
  clear c0 c1 c2 c3 c4 c5 c6 c7 c8 c9 c10 c11 c12 c13 c14 c15 c16 c17 c18 c19 c20 c21 c22 c23 c24 c25 c26 c27 c28 c29 c30 c31 c
  simp only[Int.natCast_pow]
  omega
 unfold NV
 omega
theorem A9 {P:P20} {p:Pt} (h:Rep P p) (hp:OnC p) {n:B32} (hn:BOk n):Rep (gU P n) (nC p (NV n)):=by
 have h1:=oftenR_rep h hp hn 32 mD 0 (by rw[nC];exact Rep.origin)
 rw[Nat.zero_mul,Nat.zero_add,lowV_eq hn] at h1
 exact h1
def bxN:Nat:=15112221349535400772501151409588531511454012693041857206046113283949847762202
def byN:Nat:=46316835694926478169428394003475163141307993866256225615783033603165251855960
def dJ (n:Nat):Fp:=toF (n:Int)
def bC:Pt:=(dJ bxN,dJ byN)
theorem oJ:OnC bC:=by unfold OnC;decide+kernel
theorem zn:Rep pW bC:=by
 have hx:IsF bxE (dJ bxN):=IsF.lit (by unfold Lim;decide) (by decide+kernel)
 have hy:IsF byE (dJ byN):=IsF.lit (by unfold Lim;decide) (by decide+kernel)
 refine⟨1,oO,hx.eq (by unfold bC;grind),hy.eq (by unfold bC;grind),vY,(hx.times hy).eq (by unfold bC;grind)⟩
def dN:Nat:=37095705934669439343138083508754565189542113879843219016388785533085940283555
theorem natF_d:dJ dN=dF:=rfl
def ordL:Nat:=7237005577332262213973186563042994240857116359379907606001950938285454250989
theorem vZ (a b:Nat):dJ (a+b)=dJ a+dJ b:=by unfold dJ;rw[Int.natCast_add,toF_add]
theorem jC (a b:Nat):dJ (a*b)=dJ a*dJ b:=by unfold dJ;rw[Int.natCast_mul,kU]
theorem jD (a:Nat):dJ (a%pN)=dJ a:=by
 unfold dJ
 rw[iH,Int.natCast_emod,←sS,Int.emod_emod]
theorem natF_eq {a b:Nat} (h:a%pN=b%pN):dJ a=dJ b:=by rw[←jD a,h,jD]
theorem natF_one:dJ 1=1:=by decide
theorem natF_sub {a:Nat} (h:a≤pN):dJ (pN-a)=0-dJ a:=by
 have e:dJ (pN-a)+dJ a=0:=by
  rw[←vZ,Nat.sub_add_cancel h]
  decide+kernel
 generalize dJ (pN-a)=x at*
 generalize dJ a=y at*
 grind
def fz {α:Type} (n:Nat) (k:Nat→α):α:=match n with
 | 0=>k 0
 | m+1=>k (m+1)
theorem fz_eq {α:Type} (n:Nat) (k:Nat→α):fz n k=k n:=by cases n<;>rfl
def Pr (X Y Z T:Nat) (p:Pt):Prop:=∃z:Fp,z≠0∧dJ X=p.1*z∧dJ Y=p.2*z∧dJ Z=z∧dJ T=p.1*p.2*z
def addN {α:Type} (X Y Z T U V W S:Nat) (k:Nat→Nat→Nat→Nat→α):α:=
 fz ((X*V+Y*U)%pN) fun E=>fz ((Y*V+X*U)%pN) fun H=>fz (dN*(T*S%pN)%pN) fun C=>fz (Z*W%pN) fun D=>
 fz ((D+(pN-C))%pN) fun F=>fz ((D+C)%pN) fun G=>
 fz (E*F%pN) fun X'=>fz (G*H%pN) fun Y'=>fz (F*G%pN) fun Z'=>fz (E*H%pN) fun T'=>k X' Y' Z' T'
section
variable {R:Type} [Lean.Grind.CommRing R]
theorem pn1 (d x1 y1 x2 y2 z w i j:R) (hi:(1+d*x1*x2*y1*y2)*i=1) (hj:(1-d*x1*x2*y1*y2)*j=1) (e f g h:R)
  (he:e=x1*z*(y2*w)+y1*z*(x2*w)) (hh:h=y1*z*(y2*w)+x1*z*(x2*w)) (hf:f=z*w-d*(x1*y1*z*(x2*y2*w))) (hg:g=z*w+d*(x1*y1*z*(x2*y2*w))):
  e*f=(x1*y2+y1*x2)*i*(f*g)∧g*h=(y1*y2+x1*x2)*j*(f*g)∧e*h=(x1*y2+y1*x2)*i*((y1*y2+x1*x2)*j)*(f*g)∧
  f*g=z*w*(1-d*x1*x2*y1*y2)*(z*w*(1+d*x1*x2*y1*y2)):=by
 have e1:e=z*w*(x1*y2+y1*x2):=by grind
 have h1:h=z*w*(y1*y2+x1*x2):=by grind
 have f1:f=z*w*(1-d*x1*x2*y1*y2):=by grind
 have g1:g=z*w*(1+d*x1*x2*y1*y2):=by grind
 clear he hf hg hh
 generalize (1-d*x1*x2*y1*y2)=D at*
 generalize (1+d*x1*x2*y1*y2)=E at*
 generalize (x1*y2+y1*x2)=X at*
 generalize (y1*y2+x1*x2)=Y at*
 refine⟨?_,?_,?_,?_⟩<;>grind
end
theorem natF_diff {a b:Nat} (h:b≤pN):dJ (a+(pN-b))=dJ a-dJ b:=by
 rw[vZ,natF_sub h]
 generalize dJ a=x
 generalize dJ b=y
 grind
theorem addN_ok {X Y Z T U V W S:Nat} {p q:Pt} (hp:Pr X Y Z T p) (hq:Pr U V W S q) (op:OnC p) (oq:OnC q):∃X' Y' Z' T',Pr X' Y' Z' T' (gG p q)∧∀(α:Type) (k:Nat→Nat→Nat→Nat→α),addN X Y Z T U V W S k=k X' Y' Z' T':=by
 obtain⟨z,hz,hx,hy,hzz,ht⟩:=hp
 obtain⟨w,hw,kx,ky,kz,kt⟩:=hq
 have dp:=den_pos op oq
 have dn:=nT op oq
 have ip:=eY dp
 have jp:=eY dn
 have eE:dJ ((X*V+Y*U)%pN)=p.1*z*(q.2*w)+p.2*z*(q.1*w):=by rw[jD,vZ,jC,jC,hx,hy,kx,ky]
 have eH:dJ ((Y*V+X*U)%pN)=p.2*z*(q.2*w)+p.1*z*(q.1*w):=by rw[jD,vZ,jC,jC,hx,hy,kx,ky]
 have eC:dJ (dN*(T*S%pN)%pN)=dF*(p.1*p.2*z*(q.1*q.2*w)):=by rw[jD,jC,jD,jC,ht,kt,natF_d]
 have eD:dJ (Z*W%pN)=z*w:=by rw[jD,jC,hzz,kz]
 have lC:dN*(T*S%pN)%pN<pN:=Nat.mod_lt _ (by decide)
 have eF:dJ ((Z*W%pN+(pN-dN*(T*S%pN)%pN))%pN)=z*w-dF*(p.1*p.2*z*(q.1*q.2*w)):=by rw[jD,natF_diff (Nat.le_of_lt lC),eD,eC]
 have eG:dJ ((Z*W%pN+dN*(T*S%pN)%pN)%pN)=z*w+dF*(p.1*p.2*z*(q.1*q.2*w)):=by rw[jD,vZ,eD,eC]
 obtain⟨e1,e2,e3,e4⟩:=pn1 dF p.1 p.2 q.1 q.2 z w (finv (1+dF*p.1*q.1*p.2*q.2)) (finv (1-dF*p.1*q.1*p.2*q.2)) ip jp _ _ _ _ rfl rfl rfl rfl
 refine⟨((X*V+Y*U)%pN)*(((Z*W%pN)+(pN-(dN*(T*S%pN)%pN)))%pN)%pN,(((Z*W%pN)+(dN*(T*S%pN)%pN))%pN)*((Y*V+X*U)%pN)%pN,(((Z*W%pN)+(pN-(dN*(T*S%pN)%pN)))%pN)*(((Z*W%pN)+(dN*(T*S%pN)%pN))%pN)%pN,((X*V+Y*U)%pN)*((Y*V+X*U)%pN)%pN,⟨(z*w-dF*(p.1*p.2*z*(q.1*q.2*w)))*(z*w+dF*(p.1*p.2*z*(q.1*q.2*w))),?_,?_,?_,?_,?_⟩,fun α k=>by unfold addN;simp only[fz_eq]⟩
 ·rw[e4]
  exact dQ (dQ (dQ hz hw) dn) (dQ (dQ hz hw) dp)
 ·rw[jD,jC,eE,eF];exact e1
 ·rw[jD,jC,eG,eH];exact e2
 ·rw[jD,jC,eF,eG]
 ·rw[jD,jC,eE,eH];exact e3
def lad (U V S n x y:Nat):Nat→Nat→Nat→Nat→Nat→Bool
 | 0,X,Y,Z,_=>Nat.beq (x*Z%pN) (X%pN)&&Nat.beq (y*Z%pN) (Y%pN)
 | k+1,X,Y,Z,T=>addN X Y Z T X Y Z T fun X Y Z T=>bif Nat.beq (n/2^k%2) 1 then addN X Y Z T U V 1 S fun X Y Z T=>lad U V S n x y k X Y Z T else lad U V S n x y k X Y Z T
theorem lad_ok {p:Pt} (hp:OnC p) {U V S n x y:Nat} (hU:Pr U V 1 S p):∀(k X Y Z T:Nat),Pr X Y Z T (nC p (n/2^k))→lad U V S n x y k X Y Z T=true→nC p n=(dJ x,dJ y)
 | 0,X,Y,Z,T,h,hr=>by
  obtain⟨z,hz,hx,hy,hzz,_⟩:=h
  rw[Nat.pow_zero,Nat.div_one] at hx hy
  unfold lad at hr
  rw[Bool.and_eq_true] at hr
  have a:=natF_eq (Nat.eq_of_beq_eq_true hr.1)
  have b:=natF_eq (Nat.eq_of_beq_eq_true hr.2)
  rw[jC,hzz,hx] at a
  rw[jC,hzz,hy] at b
  exact Prod.ext (zu hz a).symm (zu hz b).symm
 | k+1,X,Y,Z,T,h,hr=>by
  have on:=iN hp (n/2^(k+1))
  obtain⟨X',Y',Z',T',h2,e2⟩:=addN_ok h h on on
  rw[←wm hp] at h2
  unfold lad at hr
  rw[e2] at hr
  have ed:n/2^(k+1)=n/2^k/2:=by rw[Nat.pow_succ,Nat.div_div_eq_div_mul]
  rcases Nat.mod_two_eq_zero_or_one (n/2^k) with h0 | h1
  ·rw[h0] at hr
   refine lad_ok hp hU k X' Y' Z' T' ?_ hr
   rw[show n/2^k=n/2^(k+1)+n/2^(k+1) by omega]
   exact h2
  ·rw[h1] at hr
   obtain⟨X2,Y2,Z2,T2,h3,e3⟩:=addN_ok h2 hU (iN hp _) hp
   rw[show Nat.beq 1 1=true from rfl,cond_true,e3] at hr
   refine lad_ok hp hU k X2 Y2 Z2 T2 ?_ hr
   rw[show n/2^k=n/2^(k+1)+n/2^(k+1)+1 by omega]
   exact h3
def isMul (u v n x y:Nat):Bool:=Nat.beq (n/2^256) 0&&lad u v (u*v%pN) n x y 256 0 1 1 0
theorem isMul_ok {u v n x y:Nat} (hp:OnC (dJ u,dJ v)) (h:isMul u v n x y=true):nC (dJ u,dJ v) n=(dJ x,dJ y):=by
 unfold isMul at h
 rw[Bool.and_eq_true] at h
 refine lad_ok hp ⟨1,oO,?_,?_,natF_one,?_⟩ 256 0 1 1 0 ?_ h.2
 ·generalize dJ u=a;grind
 ·generalize dJ v=a;grind
 ·rw[jD,jC];simp only;generalize dJ u*dJ v=a;grind
 ·rw[Nat.eq_of_beq_eq_true h.1,nC]
  refine⟨1,oO,?_,?_,natF_one,?_⟩<;>decide+kernel
end Go.Proofs.YthlmepolmemejaaGreatDoor
