/- Package scalar: words below the order: walks, contracts. -/
import Derived.Test.YthlmepolmemejaaGreatDoorLMS
import Derived.Test.YthlmepolmemejaaGreatDoorLMD
set_option linter.unusedVariables false
namespace Go.Proofs.YthlmepolmemejaaGreatDoor
open Go Go.Eng
set_option maxRecDepth 100000
theorem jh:∀g cs,GX g=some cs→G2 g=some cs:=fun g cs h=>by cases h
theorem scadd_fn (a b:N4) (ha:aj a) (hb:aj b):ay Tryz.prog G2 143 [cN4.enc a,cN4.enc b] (cN4.enc (eU a b)):=by
 obtain⟨b0,b1,b2,b3,ok,e⟩:=qb ha hb
 exact ay.aD (Γ:=[ny.lift jh]) ah mixed Tryz.func143 (n:=100) (orc:=[])
  (cs:=[(0:Int).toNat≤1,(sum0 a b).toNat≤1,(sum1 a b).toNat≤1,(sum2 a b).toNat≤1]) (by kernel_rfl)
  ⟨by decide,(dK b0).2,(dK b1).2,(dK b2).2,trivial⟩ rfl rfl
noncomputable def scadd_con:Con Tryz.prog G2:=jA 143 Tryz.f143 Tryz.func143 (by kernel_rfl) (by kernel_rfl) cN4 cN4 (fun a b=>cN4.enc (eU a b)) (fun a b=>[aj a,aj b]) (fun _ _=>rfl) (fun a b h=>scadd_fn a b h.1 h.2.1)
def l9 (a b:N4):Int:=oL a.l3 b.l3 (qV a b)
def subR (a b:N4):SV:= .t [.g (cN4.row (fD a b)),.a (u64 (l9 a b))]
theorem scsub_fn (a b:N4):ay Tryz.prog G2 144 [cN4.enc a,cN4.enc b] (subR a b):=
 ay.aD (Γ:=[zL.lift jh]) ah mixed Tryz.func144 (n:=100) (orc:=[])
  (cs:=[(0:Int).toNat≤1,(qZ a b).toNat≤1,(qW a b).toNat≤1,(qV a b).toNat≤1]) (by kernel_rfl)
  ⟨by decide,mK _ _ _,mK _ _ _,mK _ _ _,trivial⟩ rfl rfl
noncomputable def zN:Con Tryz.prog G2:=jA 144 Tryz.f144 Tryz.func144 (by kernel_rfl) (by kernel_rfl) cN4 cN4 (fun a b=>subR a b) (fun _ _=>[]) (fun _ _=>rfl) (fun a b _=>scsub_fn a b)
def pR (a:N4):N4:=match l9 a o4==0 with
 | true=>fD a o4
 | false=>a
theorem ord_in:∃cs,G2 1=some cs∧0+4≤cs.length:=⟨_,rfl,by decide⟩
theorem scless_fn (a:N4):ay Tryz.prog G2 145 [cN4.enc a] (cN4.enc (pR a)):=by
 unfold pR
 cases h:(l9 a o4==0) with
 | true=>exact ay.aD (Γ:=[zN]) ah mixed Tryz.func145 (n:=100) (orc:=[(7,[.dyn]),(12,[true])]) (cs:=[∃cs,G2 1=some cs∧0+4≤cs.length,(l9 a o4==0)=true]) (by kernel_rfl) ⟨ord_in,h,trivial⟩ rfl rfl
 | false=>exact ay.aD (Γ:=[zN]) ah mixed Tryz.func145 (n:=100) (orc:=[(7,[.dyn]),(12,[false])]) (cs:=[∃cs,G2 1=some cs∧0+4≤cs.length,(l9 a o4==0)=false]) (by kernel_rfl) ⟨ord_in,h,trivial⟩ rfl rfl
noncomputable def scless_con:Con Tryz.prog G2:=fQ 145 Tryz.f145 Tryz.func145 (by kernel_rfl) (by kernel_rfl) cN4 (fun a=>cN4.enc (pR a)) (fun _=>[]) (fun _=>rfl) (fun a _=>scless_fn a)
theorem scbytes_fn (a:N4):ay Tryz.prog G2 86 [cN4.enc a] (ak.enc (fO a)):=
 ay.aD (Γ:=([]:Cons Tryz.prog G2)) ah mixed Tryz.func86 (n:=100) (orc:=[]) (cs:=[]) (by kernel_rfl) trivial rfl rfl
noncomputable def Az:Con Tryz.prog G2:=fQ 86 Tryz.f86 Tryz.func86 (by kernel_rfl) (by kernel_rfl) cN4 (fun a=>ak.enc (fO a)) (fun _=>[]) (fun _=>rfl) (fun a _=>scbytes_fn a)
def abv0:Int:=6346243789798364141
def abv1:Int:=1503914060200516822
def low60:Int:=1152921504606846975
def iE (a:N4):Int:=orU (eB a.l2 60) (shlU a.l3 4)
def jB (a:N4):Int:=eB a.l3 60
def iK (a:N4) (w:Int):N4:=⟨w,a.l0,a.l1,gu a.l2 low60⟩
def shP0 (q:Int):N4:=⟨aG q abv0,bn q abv0,bn q abv1,0⟩
def shA1 (q:Int):N4:=⟨0,aG q abv1,0,0⟩
def shA2 (q:Int):N4:=⟨0,aG q abv0,bn q abv0,0⟩
def shA3 (q:Int):N4:=⟨0,0,aG q abv1,0⟩
def shP (a:N4):N4:=eU (eU (eU (shP0 (iE a)) (shA1 (iE a))) (shA2 (jB a))) (shA3 (jB a))
def iP (a:N4) (w:Int):N4:=bif (l9 (iK a w) (shP a) !=0) then pR (eU (fD (iK a w) (shP a)) o4) else pR (fD (iK a w) (shP a))
theorem shiftF_t {a:N4} {w:Int} (h:(l9 (iK a w) (shP a) !=0)=true):iP a w=pR (eU (fD (iK a w) (shP a)) o4):=by
 unfold iP
 rw[h,cond_true]
theorem shiftF_f {a:N4} {w:Int} (h:(l9 (iK a w) (shP a) !=0)=false):iP a w=pR (fD (iK a w) (shP a)):=by
 unfold iP
 rw[h,cond_false]
namespace shf
noncomputable def Γ:Cons Tryz.prog G2:=[rX.lift jh,scadd_con,zN,scless_con]
def orc (q0 q1 m2 h00 l00 h01 l01 h10 l10 h11 l11 : Int) (P1 P2 P3 R : N4) (B : Int) (t : Bool) (R2 R3 : N4) : Orc :=
  [(25, [.n q0]), (28, [.n q1]), (36, [.n m2]), (40, [.s (nL h00 l00)]), (45, [.s (nL h01 l01)]), (50, [.s (nL h10 l10)]), (55, [.s (nL h11 l11)]),
   (65, [.s (cN4.enc P1)]), (70, [.s (cN4.enc P2)]), (74, [.s (cN4.enc P3)]), (78, [.s (.t [.g (cN4.row R), .a (u64 B)])]), (82, [.b t]), (84, [.dyn]), (85, [.s (cN4.enc R2)]), (87, [.s (cN4.enc R3)])]
section
variable (a:N4) (w q0 q1 m2 h00 l00 h01 l01 h10 l10 h11 l11:Int) (P1 P2 P3 R:N4) (B:Int)
def c0 (t : Bool) : Cst :=
  [orU (eB a.l2 60) (shlU a.l3 4) = q0, eB a.l3 60 = q1, gu a.l2 low60 = m2, nL (bn q0 abv0) (aG q0 abv0) = nL h00 l00, nL (bn q0 abv1) (aG q0 abv1) = nL h01 l01, nL (bn q1 abv0) (aG q1 abv0) = nL h10 l10, nL (bn q1 abv1) (aG q1 abv1) = nL h11 l11,
   aj ⟨l00, h00, h01, 0⟩, aj ⟨0, l01, 0, 0⟩, cN4.enc (eU ⟨l00, h00, h01, 0⟩ ⟨0, l01, 0, 0⟩) = cN4.enc P1, aj P1, aj ⟨0, l10, h10, 0⟩, cN4.enc (eU P1 ⟨0, l10, h10, 0⟩) = cN4.enc P2, aj P2, aj ⟨0, 0, l11, 0⟩, cN4.enc (eU P2 ⟨0, 0, l11, 0⟩) = cN4.enc P3,
   subR ⟨w, a.l0, a.l1, m2⟩ P3 = .t [.g (cN4.row R), .a (u64 B)], (B != 0) = t]
theorem ext (R2 R3:N4):
  eP Γ tys Tryz.f127 100 [cN4.enc a,(av .u64).enc w] (orc q0 q1 m2 h00 l00 h01 l01 h10 l10 h11 l11 P1 P2 P3 R B true R2 R3)=
   some (cN4.enc R3,c0 a w q0 q1 m2 h00 l00 h01 l01 h10 l10 h11 l11 P1 P2 P3 R B true++[∃cs,G2 1=some cs∧0+4≤cs.length,aj R,aj o4,cN4.enc (eU R o4)=cN4.enc R2,cN4.enc (pR R2)=cN4.enc R3]):=by kernel_rfl
theorem exf (R2 R3:N4):
  eP Γ tys Tryz.f127 100 [cN4.enc a,(av .u64).enc w] (orc q0 q1 m2 h00 l00 h01 l01 h10 l10 h11 l11 P1 P2 P3 R B false R2 R3)=
   some (cN4.enc R3,c0 a w q0 q1 m2 h00 l00 h01 l01 h10 l10 h11 l11 P1 P2 P3 R B false++[cN4.enc (pR R)=cN4.enc R3]):=by kernel_rfl
end
end shf
theorem yP {x y:Int} (hx:Word x) (hy:Word y):Word (aG x y)∧Word (bn x y)∧aG x y+18446744073709551616*bn x y=x*y:=by
 have hl:0≤x*y:=Int.mul_nonneg hx.1 hy.1
 have hu:x*y≤18446744073709551615*18446744073709551615:=Int.mul_le_mul (by have:=hx.2;omega) (by have:=hy.2;omega) hy.1 (by decide)
 rw[nQ,p9 x y hx hy]
 generalize x*y=z at*
 unfold Word
 omega
theorem subN_val {a b:N4} (ha:aj a) (hb:aj b):aj (fD a b)∧(l9 a b=0∨l9 a b=1)∧N4V (fD a b)=N4V a-N4V b+115792089237316195423570985008687907853269984665640564039457584007913129639936*l9 a b:=by
 obtain⟨a0,a1,a2,a3⟩:=ha
 obtain⟨b0,b1,b2,b3⟩:=hb
 obtain⟨c0,w0,e0⟩:=nY a0 b0 (.inl rfl)
 obtain⟨c1,w1,e1⟩:=nY a1 b1 c0
 obtain⟨c2,w2,e2⟩:=nY a2 b2 c1
 obtain⟨c3,w3,e3⟩:=nY a3 b3 c2
 refine⟨⟨w0,w1,w2,w3⟩,c3,?_⟩
 show l6 a.l0 b.l0 0+18446744073709551616*l6 a.l1 b.l1 (qZ a b)+340282366920938463463374607431768211456*l6 a.l2 b.l2 (qW a b)+6277101735386680763835789423207666416102355444464034512896*l6 a.l3 b.l3 (qV a b)=_
 have e0:l6 a.l0 b.l0 0=a.l0-b.l0-0+18446744073709551616*qZ a b:=e0
 have e1:l6 a.l1 b.l1 (qZ a b)=a.l1-b.l1-qZ a b+18446744073709551616*qW a b:=e1
 have e2:l6 a.l2 b.l2 (qW a b)=a.l2-b.l2-qW a b+18446744073709551616*qV a b:=e2
 have e3:l6 a.l3 b.l3 (qV a b)=a.l3-b.l3-qV a b+18446744073709551616*l9 a b:=e3
 rw[e0,e1,e2,e3]
 unfold N4V
 omega
theorem rH:bP=7237005577332262213973186563042994240857116359379907606001950938285454250989:=rfl
theorem lessS_val {a:N4} (ha:aj a) (hv:N4V a<2*bP):aj (pR a)∧N4V (pR a)=N4V a%bP:=by
 obtain⟨ok,hb,e⟩:=subN_val ha o4_ok
 have h0:=jH ha
 have h1:=jH ok
 have ho:=rH
 rw[o4_val] at e
 unfold pR
 rcases hb with hb | hb
 ·rw[hb] at e ⊢
  simp only[beq_self_eq_true]
  refine⟨ok,?_⟩
  rw[e]
  have h2:bP≤N4V a:=by omega
  have:N4V a%bP=(N4V a-bP)%bP:=(Int.sub_emod_right _ _).symm
  rw[this,Int.emod_eq_of_lt (by omega) (by omega)]
  omega
 ·rw[hb] at e ⊢
  have hne:((1:Int)==0)=false:=by decide
  simp only[hne]
  refine⟨ha,?_⟩
  rw[Int.emod_eq_of_lt (by omega) (by omega)]
theorem zK {a b:N4} (ha:aj a) (hb:aj b) (h:N4V a+N4V b<115792089237316195423570985008687907853269984665640564039457584007913129639936):aj (eU a b)∧N4V (eU a b)=N4V a+N4V b:=by
 obtain⟨_,_,_,b3,ok,e⟩:=qb ha hb
 have:=jH ok
 refine⟨ok,?_⟩
 rcases b3 with b3 | b3<;>rw[b3] at e<;>omega
def aI:Int:=27742317777372353535851937790883648493
structure ShOk (a:N4) (w:Int) where
 q0:Word (iE a)
 q1:jB a=0∨jB a=1
 low:aj (iK a w)
 p0:aj (shP0 (iE a))
 a1:aj (shA1 (iE a))
 p1:aj (eU (shP0 (iE a)) (shA1 (iE a)))
 a2:aj (shA2 (jB a))
 p2:aj (eU (eU (shP0 (iE a)) (shA1 (iE a))) (shA2 (jB a)))
 a3:aj (shA3 (jB a))
 p3:aj (shP a)
 pv:N4V (shP a)=(iE a+18446744073709551616*jB a)*aI
 t:N4V a*18446744073709551616+w=N4V (iK a w)+7237005577332262213973186563042994240829374041602535252466099000494570602496*(iE a+18446744073709551616*jB a)
 lo:0≤N4V (iK a w)∧N4V (iK a w)<7237005577332262213973186563042994240829374041602535252466099000494570602496
theorem and60 (x:Int) (h:Word x):gu x low60=x%1152921504606846976:=
 bits_mask .u64 64 (by decide) wraps_u64 60 (by decide) x h.1 h.2
theorem mF:Word 0:=⟨by decide,by decide⟩
theorem shP_val {q0 q1:Int} (h0:Word q0) (h1:q1=0∨q1=1):aj (shP0 q0)∧aj (shA1 q0)∧aj (eU (shP0 q0) (shA1 q0))∧aj (shA2 q1)∧aj (eU (eU (shP0 q0) (shA1 q0)) (shA2 q1))∧aj (shA3 q1)∧
  aj (eU (eU (eU (shP0 q0) (shA1 q0)) (shA2 q1)) (shA3 q1))∧N4V (eU (eU (eU (shP0 q0) (shA1 q0)) (shA2 q1)) (shA3 q1))=(q0+18446744073709551616*q1)*aI:=by
 have w0:Word abv0:=⟨by decide,by decide⟩
 have w1:Word abv1:=⟨by decide,by decide⟩
 have q1w:Word q1:=by unfold Word;omega
 obtain⟨m1,m2,m3⟩:=yP h0 w0
 obtain⟨m4,m5,m6⟩:=yP h0 w1
 obtain⟨m7,m8,m9⟩:=yP q1w w0
 obtain⟨m10,m11,m12⟩:=yP q1w w1
 have hp0:aj (shP0 q0):=⟨m1,m2,m5,mF⟩
 have ha1:aj (shA1 q0):=⟨mF,m4,mF,mF⟩
 have ha2:aj (shA2 q1):=⟨mF,m7,m8,mF⟩
 have ha3:aj (shA3 q1):=⟨mF,mF,m10,mF⟩
 have m12':bn q1 abv1=0:=by
  rw[p9 _ _ q1w w1]
  rcases h1 with h | h<;>rw[h]<;>decide
 have e0:abv0=6346243789798364141:=rfl
 have e1:abv1=1503914060200516822:=rfl
 have ea:aI=27742317777372353535851937790883648493:=rfl
 have v0:N4V (shP0 q0)+N4V (shA1 q0)=27742317777372353535851937790883648493*q0:=by
  rw[e0] at m3;rw[e1] at m6
  have x1:N4V (shP0 q0)=aG q0 abv0+18446744073709551616*bn q0 abv0+340282366920938463463374607431768211456*bn q0 abv1+6277101735386680763835789423207666416102355444464034512896*0:=rfl
  have x2:N4V (shA1 q0)=0+18446744073709551616*aG q0 abv1+340282366920938463463374607431768211456*0+6277101735386680763835789423207666416102355444464034512896*0:=rfl
  rw[x1,x2,e0,e1]
  clear x1 x2 hp0 ha1 ha2 ha3 m7 m8 m9 m10 m11 m12 m12' m1 m2 m4 m5 w0 w1 q1w h0 h1
  omega
 have v2:N4V (shA2 q1)+N4V (shA3 q1)=18446744073709551616*(27742317777372353535851937790883648493*q1):=by
  rw[m12',e1] at m12
  rw[e0] at m9
  have x1:N4V (shA2 q1)=0+18446744073709551616*aG q1 abv0+340282366920938463463374607431768211456*bn q1 abv0+6277101735386680763835789423207666416102355444464034512896*0:=rfl
  have x2:N4V (shA3 q1)=0+18446744073709551616*0+340282366920938463463374607431768211456*aG q1 abv1+6277101735386680763835789423207666416102355444464034512896*0:=rfl
  rw[x1,x2,e0,e1]
  clear x1 x2 hp0 ha1 ha2 ha3 m1 m2 m3 m4 m5 m6 m7 m8 m10 m11 w0 w1 q1w h0 h1 v0
  omega
 have b2:=(jH ha2).1
 have b3:=(jH ha3).1
 have hq:=h0.2
 have hq1:q1≤1:=by omega
 clear m1 m2 m3 m4 m5 m6 m7 m8 m9 m10 m11 m12 m12' w0 w1 e0 e1 q1w
 obtain⟨o1,s1⟩:=zK hp0 ha1 (by rw[v0];omega)
 obtain⟨o2,s2⟩:=zK o1 ha2 (by rw[s1,v0];omega)
 obtain⟨o3,s3⟩:=zK o2 ha3 (by rw[s2,s1,v0];omega)
 refine⟨hp0,ha1,o1,ha2,o2,ha3,o3,?_⟩
 rw[s3,s2,s1,v0,ea]
 omega
theorem shLow_val {a:N4} {w:Int} (ha:aj a) (hlt:N4V a<bP) (hw:Word w):Word (iE a)∧(jB a=0∨jB a=1)∧aj (iK a w)∧
  N4V a*18446744073709551616+w=N4V (iK a w)+7237005577332262213973186563042994240829374041602535252466099000494570602496*(iE a+18446744073709551616*jB a)∧
  0≤N4V (iK a w)∧N4V (iK a w)<7237005577332262213973186563042994240829374041602535252466099000494570602496:=by
 obtain⟨h0,h1,h2,h3⟩:=ha
 have ho:=rH
 have e3:a.l3<2305843009213693952:=by
  have g0:=h0.1;have g1:=h1.1;have g2:=h2.1;have g3:=h3.1
  unfold N4V at hlt
  omega
 have eq0:iE a=a.l2/1152921504606846976+16*(a.l3%1152921504606846976):=by
  unfold iE
  rw[xJ,mh]
  have g:=h2;have g3:=h3
  unfold Word at g g3
  clear h0 h1 hw hlt ho e3
  rw[ko,kC 4 _ _ (by omega) (by omega) (by omega) (by omega) (by omega) (by omega)]
  omega
 have eq1:jB a=a.l3/1152921504606846976:=by
  unfold jB
  rw[mh]
  rfl
 have el:(iK a w)=⟨w,a.l0,a.l1,a.l2%1152921504606846976⟩:=by
  unfold iK
  rw[and60 _ h2]
 rw[el,eq0,eq1]
 obtain⟨l0,l1,l2,l3⟩:=a
 unfold Word at h0 h1 h2 h3 hw
 simp only at*
 clear hlt ho eq0 eq1 el
 have hd:l2=1152921504606846976*(l2/1152921504606846976)+l2%1152921504606846976:=by omega
 have hd3:l3=1152921504606846976*(l3/1152921504606846976)+l3%1152921504606846976:=by omega
 refine⟨⟨by omega,by omega⟩,by omega,⟨hw,h0,h1,?_⟩,?_,?_,?_⟩
 ·show 0≤l2%1152921504606846976∧l2%1152921504606846976<18446744073709551616
  omega
 ·show(l0+18446744073709551616*l1+340282366920938463463374607431768211456*l2+6277101735386680763835789423207666416102355444464034512896*l3)*18446744073709551616+w=(w+18446744073709551616*l0+340282366920938463463374607431768211456*l1+6277101735386680763835789423207666416102355444464034512896*(l2%1152921504606846976))+_
  generalize l2/1152921504606846976=x2 at*
  generalize l2%1152921504606846976=y2 at*
  generalize l3/1152921504606846976=x3 at*
  generalize l3%1152921504606846976=y3 at*
  subst hd hd3
  omega
 ·show 0≤w+18446744073709551616*l0+340282366920938463463374607431768211456*l1+6277101735386680763835789423207666416102355444464034512896*(l2%1152921504606846976)
  omega
 ·show w+18446744073709551616*l0+340282366920938463463374607431768211456*l1+6277101735386680763835789423207666416102355444464034512896*(l2%1152921504606846976)<_
  omega
theorem shOk {a:N4} {w:Int} (ha:aj a) (hlt:N4V a<bP) (hw:Word w):ShOk a w:=by
 obtain⟨g1,g2,g3,g4,g5⟩:=shLow_val ha hlt hw
 obtain⟨p1,p2,p3,p4,p5,p6,p7,p8⟩:=shP_val g1 g2
 exact⟨g1,g2,g3,p1,p2,p3,p4,p5,p6,p7,p8,g4,g5⟩
theorem core_mod (L Q:Int):(L+7237005577332262213973186563042994240829374041602535252466099000494570602496*Q)%bP=(L-Q*aI)%bP:=by
 have:L+7237005577332262213973186563042994240829374041602535252466099000494570602496*Q=(L-Q*aI)+bP*Q:=by
  rw[rH]
  show _=L-Q*27742317777372353535851937790883648493+_
  omega
 rw[this,Int.add_mul_emod_self_left]
theorem core0 (L Q R:Int) (h1:L<7237005577332262213973186563042994240829374041602535252466099000494570602496) (h2:0≤Q) (e:R=L-Q*aI+115792089237316195423570985008687907853269984665640564039457584007913129639936*0):R<2*bP∧R%bP=(L-Q*aI)%bP:=by
 rw[rH]
 have ea:aI=27742317777372353535851937790883648493:=rfl
 rw[ea] at e ⊢
 refine⟨by omega,?_⟩
 congr 1
 omega
theorem core1 (L Q R R2 H:Int) (h0:0≤L) (h2:0≤Q) (h3:Q<36893488147419103232) (e:R=L-Q*aI+115792089237316195423570985008687907853269984665640564039457584007913129639936*1) (hR:R<115792089237316195423570985008687907853269984665640564039457584007913129639936)
  (e2:R2+115792089237316195423570985008687907853269984665640564039457584007913129639936*H=R+bP) (hR2:0≤R2) (hR3:R2<115792089237316195423570985008687907853269984665640564039457584007913129639936) (hH:H=0∨H=1):R2<2*bP∧R2%bP=(L-Q*aI)%bP:=by
 have ea:aI=27742317777372353535851937790883648493:=rfl
 rw[rH] at e2
 rw[ea] at e ⊢
 have e3:R2=(L-Q*27742317777372353535851937790883648493)+bP:=by
  rw[rH]
  omega
 refine⟨?_,?_⟩
 ·rw[rH]
  omega
 ·rw[e3,Int.add_emod_right]
theorem shift_val {a:N4} {w:Int} (ha:aj a) (hlt:N4V a<bP) (hw:Word w):aj (iP a w)∧N4V (iP a w)=(N4V a*18446744073709551616+w)%bP:=by
 have S:=shOk ha hlt hw
 have hQ:0≤iE a+18446744073709551616*jB a∧iE a+18446744073709551616*jB a<36893488147419103232:=by
  have h1:=S.q0;have h2:=S.q1
  generalize iE a=x at*
  generalize jB a=y at*
  clear S ha hlt hw
  unfold Word at h1
  omega
 obtain⟨ok,hb,e⟩:=subN_val S.low S.p3
 rw[S.pv] at e
 rw[S.t,core_mod]
 have b0:=jH ok
 rcases hb with hb | hb
 ·rw[shiftF_f (by rw[hb];decide)]
  rw[hb] at e
  obtain⟨g1,g2⟩:=core0 _ _ _ S.lo.2 hQ.1 e
  obtain⟨k1,k2⟩:=lessS_val ok g1
  exact⟨k1,by rw[k2,g2]⟩
 ·rw[shiftF_t (by rw[hb];decide)]
  rw[hb] at e
  obtain⟨_,_,_,b3,ok2,e2⟩:=qb ok o4_ok
  rw[o4_val] at e2
  have b1:=jH ok2
  obtain⟨g1,g2⟩:=core1 _ _ _ _ _ S.lo.1 hQ.1 hQ.2 e b0.2 e2 b1.1 b1.2 b3
  obtain⟨k1,k2⟩:=lessS_val ok2 g1
  exact⟨k1,by rw[k2,g2]⟩
theorem shift_fn (a:N4) (w:Int) (ha:aj a) (hlt:N4V a<bP) (hw:Word w):ay Tryz.prog G2 127 [cN4.enc a,(av .u64).enc w] (cN4.enc (iP a w)):=by
 have S:=shOk ha hlt hw
 have hR:=(subN_val S.low S.p3).1
 have hsub:subR ⟨w,a.l0,a.l1,gu a.l2 low60⟩ (shP a)= .t [.g (cN4.row (fD (iK a w) (shP a))),.a (u64 (l9 (iK a w) (shP a)))]:=rfl
 cases h:(l9 (iK a w) (shP a) !=0) with
 | true=>
  rw[shiftF_t h]
  exact ay.aD ah mixed Tryz.func127 (shf.ext a w (iE a) (jB a) (gu a.l2 low60) (bn (iE a) abv0) (aG (iE a) abv0) (bn (iE a) abv1) (aG (iE a) abv1) (bn (jB a) abv0) (aG (jB a) abv0) (bn (jB a) abv1) (aG (jB a) abv1)
   (eU (shP0 (iE a)) (shA1 (iE a))) (eU (eU (shP0 (iE a)) (shA1 (iE a))) (shA2 (jB a))) (shP a) (fD (iK a w) (shP a)) (l9 (iK a w) (shP a)) (eU (fD (iK a w) (shP a)) o4) (pR (eU (fD (iK a w) (shP a)) o4)))
   ⟨rfl,rfl,rfl,rfl,rfl,rfl,rfl,S.p0,S.a1,rfl,S.p1,S.a2,rfl,S.p2,S.a3,rfl,hsub,h,ord_in,hR,o4_ok,rfl,rfl,trivial⟩ rfl rfl
 | false=>
  rw[shiftF_f h]
  exact ay.aD ah mixed Tryz.func127 (shf.exf a w (iE a) (jB a) (gu a.l2 low60) (bn (iE a) abv0) (aG (iE a) abv0) (bn (iE a) abv1) (aG (iE a) abv1) (bn (jB a) abv0) (aG (jB a) abv0) (bn (jB a) abv1) (aG (jB a) abv1)
   (eU (shP0 (iE a)) (shA1 (iE a))) (eU (eU (shP0 (iE a)) (shA1 (iE a))) (shA2 (jB a))) (shP a) (fD (iK a w) (shP a)) (l9 (iK a w) (shP a)) bF (pR (fD (iK a w) (shP a))))
   ⟨rfl,rfl,rfl,rfl,rfl,rfl,rfl,S.p0,S.a1,rfl,S.p1,S.a2,rfl,S.p2,S.a3,rfl,hsub,h,rfl,trivial⟩ rfl rfl
noncomputable def shift_con:Con Tryz.prog G2:=jA 127 Tryz.f127 Tryz.func127 (by kernel_rfl) (by kernel_rfl) cN4 (av .u64) (fun a w=>cN4.enc (iP a w)) (fun a w=>[aj a,N4V a<bP,Word w]) (fun _ _=>rfl) (fun a w h=>shift_fn a w h.1 h.2.1 h.2.2.1)
def w8 (f:Nat→Int) (k:Nat):Int:=
 let s (acc:Int) (i:Nat):Int:=orU (shlU acc 8) (IntKind.u64.wrap (f (k+i)))
 s (s (s (s (s (s (s (s 0 7) 6) 5) 4) 3) 2) 1) 0
def fJ (f:Nat→Int) (n:Nat):Nat→N4
 | 0=>bF
 | j+1=>iP (fJ f n j) (w8 f (8*(n-1-j)))
def hor (f:Nat→Int) (n:Nat):Nat→Int
 | 0=>0
 | j+1=>hor f n j*18446744073709551616+w8 f (8*(n-1-j))
theorem mH {f:Nat→Int} (h:∀i,0≤f i∧f i<256) (k:Nat):w8 f k=(((((((f (k+7))*256+f (k+6))*256+f (k+5))*256+f (k+4))*256+f (k+3))*256+f (k+2))*256+f (k+1))*256+f (k+0)∧Word (w8 f k):=by
 have h7:=h (k+7)
 have h6:=h (k+6)
 have h5:=h (k+5)
 have h4:=h (k+4)
 have h3:=h (k+3)
 have h2:=h (k+2)
 have h1:=h (k+1)
 have h0:=h (k+0)
 have e:w8 f k=(((((((f (k+7))*256+f (k+6))*256+f (k+5))*256+f (k+4))*256+f (k+3))*256+f (k+2))*256+f (k+1))*256+f (k+0):=by
  unfold w8
  simp only
  generalize f (k+7)=x7 at*
  generalize f (k+6)=x6 at*
  generalize f (k+5)=x5 at*
  generalize f (k+4)=x4 at*
  generalize f (k+3)=x3 at*
  generalize f (k+2)=x2 at*
  generalize f (k+1)=x1 at*
  generalize f (k+0)=x0 at*
  rw[stepW (by omega) (by omega) h7,stepW (by omega) (by omega) h6,stepW (by omega) (by omega) h5,stepW (by omega) (by omega) h4,stepW (by omega) (by omega) h3,stepW (by omega) (by omega) h2,stepW (by omega) (by omega) h1,stepW (by omega) (by omega) h0]
  omega
 refine⟨e,?_⟩
 rw[e]
 unfold Word
 omega
theorem emod_step (x w:Int):(x%bP*18446744073709551616+w)%bP=(x*18446744073709551616+w)%bP:=by
 rw[Int.add_emod,Int.mul_emod,Int.emod_emod_of_dvd x (Int.dvd_refl _),←Int.mul_emod,←Int.add_emod]
theorem iT {f:Nat→Int} (h:∀i,0≤f i∧f i<256) (n:Nat):∀j,aj (fJ f n j)∧N4V (fJ f n j)=hor f n j%bP
 | 0=>⟨gy,by show N4V bF=0%bP;decide⟩
 | j+1=>by
  obtain⟨h1,h2⟩:=iT h n j
  have hlt:N4V (fJ f n j)<bP:=by
   rw[h2]
   exact Int.emod_lt_of_pos _ (by decide)
  obtain⟨g1,g2⟩:=shift_val h1 hlt (mH h (8*(n-1-j))).2
  refine⟨g1,?_⟩
  show N4V (iP (fJ f n j) (w8 f (8*(n-1-j))))=_
  rw[g2,h2,emod_step]
  rfl
theorem mo {f:Nat→Int} (h:∀i,0≤f i∧f i<256) (n j:Nat):N4V (fJ f n j)<bP:=by
 rw[(iT h n j).2]
 exact Int.emod_lt_of_pos _ (by decide)
namespace scr
noncomputable abbrev fn:=Tryz.f85
noncomputable def body:Code:=bZ fn
noncomputable def Γ:Cons Tryz.prog G2:=[shift_con]
theorem ex32 (b:B32) (ty:TypeId) (w0:Int) (w1:Int) (w2:Int) (w3:Int) (v1:N4) (v2:N4) (v3:N4) (v4:N4):iY Γ tys fn 100 [⟨false,ty,.lit (ak.row b)⟩] [.o (.a (.slc 0 0 32 32))] [(27,[.dyn,.dyn,.dyn,.dyn,.dyn,.dyn,.dyn,.n w0,.dyn,.dyn,.dyn,.dyn,.dyn,.dyn,.dyn,.n w1,.dyn,.dyn,.dyn,.dyn,.dyn,.dyn,.dyn,.n w2,.dyn,.dyn,.dyn,.dyn,.dyn,.dyn,.dyn,.n w3]),(30,[.s (cN4.enc v1),.s (cN4.enc v2),.s (cN4.enc v3),.s (cN4.enc v4)])]=some (cN4.enc v4,[w8 b.at 24=w0,aj bF,N4V bF<bP,Word w0,cN4.enc (iP bF w0)=cN4.enc v1,w8 b.at 16=w1,aj v1,N4V v1<bP,Word w1,cN4.enc (iP v1 w1)=cN4.enc v2,w8 b.at 8=w2,aj v2,N4V v2<bP,Word w2,cN4.enc (iP v2 w2)=cN4.enc v3,w8 b.at 0=w3,aj v3,N4V v3<bP,Word w3,cN4.enc (iP v3 w3)=cN4.enc v4]):=by kernel_rfl
theorem mem32 (b:B32) (ty:TypeId) (h:∀i,0≤b.at i∧b.at i<256):FnMem Tryz.prog G2 85 [.o (.a (.slc 0 0 32 32))] [⟨false,ty,.lit (ak.row b)⟩] (cN4.enc (fJ b.at 4 4)):=by
 intro fn' c' hf' hb'
 rw[Tryz.func85] at hf'
 cases hf'
 exact eZ ah mixed hb' (ex32 b ty (w8 b.at 24) (w8 b.at 16) (w8 b.at 8) (w8 b.at 0) (fJ b.at 4 1) (fJ b.at 4 2) (fJ b.at 4 3) (fJ b.at 4 4)) ⟨rfl,(iT h 4 0).1,mo h 4 0,(mH h 24).2,rfl,rfl,(iT h 4 1).1,mo h 4 1,(mH h 16).2,rfl,rfl,(iT h 4 2).1,mo h 4 2,(mH h 8).2,rfl,rfl,(iT h 4 3).1,mo h 4 3,(mH h 0).2,rfl,trivial⟩
theorem ex64 (b:B64) (ty:TypeId) (w0:Int) (w1:Int) (w2:Int) (w3:Int) (w4:Int) (w5:Int) (w6:Int) (w7:Int) (v1:N4) (v2:N4) (v3:N4) (v4:N4) (v5:N4) (v6:N4) (v7:N4) (v8:N4):iY Γ tys fn 100 [⟨false,ty,.lit (bU.row b)⟩] [.o (.a (.slc 0 0 64 64))] [(27,[.dyn,.dyn,.dyn,.dyn,.dyn,.dyn,.dyn,.n w0,.dyn,.dyn,.dyn,.dyn,.dyn,.dyn,.dyn,.n w1,.dyn,.dyn,.dyn,.dyn,.dyn,.dyn,.dyn,.n w2,.dyn,.dyn,.dyn,.dyn,.dyn,.dyn,.dyn,.n w3,.dyn,.dyn,.dyn,.dyn,.dyn,.dyn,.dyn,.n w4,.dyn,.dyn,.dyn,.dyn,.dyn,.dyn,.dyn,.n w5,.dyn,.dyn,.dyn,.dyn,.dyn,.dyn,.dyn,.n w6,.dyn,.dyn,.dyn,.dyn,.dyn,.dyn,.dyn,.n w7]),(30,[.s (cN4.enc v1),.s (cN4.enc v2),.s (cN4.enc v3),.s (cN4.enc v4),.s (cN4.enc v5),.s (cN4.enc v6),.s (cN4.enc v7),.s (cN4.enc v8)])]=some (cN4.enc v8,[w8 b.at 56=w0,aj bF,N4V bF<bP,Word w0,cN4.enc (iP bF w0)=cN4.enc v1,w8 b.at 48=w1,aj v1,N4V v1<bP,Word w1,cN4.enc (iP v1 w1)=cN4.enc v2,w8 b.at 40=w2,aj v2,N4V v2<bP,Word w2,cN4.enc (iP v2 w2)=cN4.enc v3,w8 b.at 32=w3,aj v3,N4V v3<bP,Word w3,cN4.enc (iP v3 w3)=cN4.enc v4,w8 b.at 24=w4,aj v4,N4V v4<bP,Word w4,cN4.enc (iP v4 w4)=cN4.enc v5,w8 b.at 16=w5,aj v5,N4V v5<bP,Word w5,cN4.enc (iP v5 w5)=cN4.enc v6,w8 b.at 8=w6,aj v6,N4V v6<bP,Word w6,cN4.enc (iP v6 w6)=cN4.enc v7,w8 b.at 0=w7,aj v7,N4V v7<bP,Word w7,cN4.enc (iP v7 w7)=cN4.enc v8]):=by kernel_rfl
theorem mem64 (b:B64) (ty:TypeId) (h:∀i,0≤b.at i∧b.at i<256):FnMem Tryz.prog G2 85 [.o (.a (.slc 0 0 64 64))] [⟨false,ty,.lit (bU.row b)⟩] (cN4.enc (fJ b.at 8 8)):=by
 intro fn' c' hf' hb'
 rw[Tryz.func85] at hf'
 cases hf'
 exact eZ ah mixed hb' (ex64 b ty (w8 b.at 56) (w8 b.at 48) (w8 b.at 40) (w8 b.at 32) (w8 b.at 24) (w8 b.at 16) (w8 b.at 8) (w8 b.at 0) (fJ b.at 8 1) (fJ b.at 8 2) (fJ b.at 8 3) (fJ b.at 8 4) (fJ b.at 8 5) (fJ b.at 8 6) (fJ b.at 8 7) (fJ b.at 8 8)) ⟨rfl,(iT h 8 0).1,mo h 8 0,(mH h 56).2,rfl,rfl,(iT h 8 1).1,mo h 8 1,(mH h 48).2,rfl,rfl,(iT h 8 2).1,mo h 8 2,(mH h 40).2,rfl,rfl,(iT h 8 3).1,mo h 8 3,(mH h 32).2,rfl,rfl,(iT h 8 4).1,mo h 8 4,(mH h 24).2,rfl,rfl,(iT h 8 5).1,mo h 8 5,(mH h 16).2,rfl,rfl,(iT h 8 6).1,mo h 8 6,(mH h 8).2,rfl,rfl,(iT h 8 7).1,mo h 8 7,(mH h 0).2,rfl,trivial⟩
noncomputable def con32:Con Tryz.prog G2:=conSlc ah 85 fn Tryz.func85 (by kernel_rfl) (c:=body) (by kernel_rfl) 32 ak (fun b=>cN4.enc (fJ b.at 4 4)) (fun b=>[∀i,0≤b.at i∧b.at i<256]) (fun _=>rfl) (fun b ty h=>mem32 b ty h.1)
noncomputable def con64:Con Tryz.prog G2:=conSlc ah 85 fn Tryz.func85 (by kernel_rfl) (c:=body) (by kernel_rfl) 64 bU (fun b=>cN4.enc (fJ b.at 8 8)) (fun b=>[∀i,0≤b.at i∧b.at i<256]) (fun _=>rfl) (fun b ty h=>mem64 b ty h.1)
theorem fr32:∀m fr fr' args,con32.spec m fr args=none→con32.spec m fr' args=none:=by
 intro m fr fr' args h
 unfold con32 conSlc at h ⊢
 exact Con.xU _ _ _ _ _ _ _ _ _ _ _ _ h
end scr
noncomputable def zO:Con Tryz.prog G2:=Con.or scr.con32 scr.con64 rfl scr.fr32
theorem scReduce_ex (b:B64) (v:N4):eP [zO,Az] tys Tryz.f87 100 [bU.enc b] [(4,[.s (cN4.enc v)])]=some (ak.enc (fO v),[∀i,0≤b.at i∧b.at i<256,cN4.enc (fJ b.at 8 8)=cN4.enc v]):=by kernel_rfl
theorem scReduce_fn (b:B64) (h:∀i,0≤b.at i∧b.at i<256):ay Tryz.prog G2 87 [bU.enc b] (ak.enc (fO (fJ b.at 8 8))):=
 ay.aD ah mixed Tryz.func87 (scReduce_ex b (fJ b.at 8 8)) ⟨h,rfl,trivial⟩ rfl rfl
noncomputable def scReduce_con:Con Tryz.prog G2:=fQ 87 Tryz.f87 Tryz.func87 (by kernel_rfl) (by kernel_rfl) bU (fun b=>ak.enc (fO (fJ b.at 8 8))) (fun b=>[∀i,0≤b.at i∧b.at i<256]) (fun _=>rfl) (fun b h=>scReduce_fn b h.1)
end Go.Proofs.YthlmepolmemejaaGreatDoor
